/- What the functions of this seat come to, over plain values. No condition. -/
import Derived.Test.YtkpoidakicgfbaaE3
import Derived.Test.YtkpoidakicgfbaaJ1
namespace Go.Proofs.Ytkpoidakicgfbaa.C
open Go Go.Proofs.Ytkpoidakicgfbaa.Eng Go.Proofs Go.Proofs.Ytkpoidakicgfbaa
set_option maxRecDepth 100000
set_option linter.unusedVariables false
def laws_big.f (x0 : List Int) (x1 : List Int) : Option (Bool) := if (x0.length : Int) > 1048576 then (some true) else (some (decide ((x1.length : Int) > (IntKind.i64.wrap (1048576 - (x0.length : Int))))))
theorem laws_big.f.br (x0 : List Int) (x1 : List Int) : LeO (laws_big.f x0 x1) (S.laws_big.f x0 x1) := by
  refine LeO.of (S.laws_big.f.eq _ _) ?_
  unfold laws_big.f
  exact (LeO.dec (fun h0 => LeO.refl _) (fun h0 => LeO.refl _))
def spec_l1Cur_next.f (x0_0 : List Int) (x0_1 : Int) (x0_2 : Int) : Option (Int × (List Int) × Int × Int) := if x0_1 < (x0_0.length : Int) then (if 0 ≤ x0_1 then (if (IntKind.i64.wrap (x0_1 + 1)) ≤ (x0_0.length : Int) then (some ((IntKind.i64.wrap (rde x0_0 x0_1)), x0_0, (IntKind.i64.wrap (x0_1 + 1)), (IntKind.u64.wrap ((IntKind.u64.wrap ((IntKind.u64.wrap (x0_2 * 6364136223846793005)) + (IntKind.u64.wrap (IntKind.i64.wrap (rde x0_0 x0_1))))) + 1442695040888963407)))) else (some ((IntKind.i64.wrap (bitI .and .u64 (shrI .u64 (IntKind.u64.wrap ((IntKind.u64.wrap ((IntKind.u64.wrap (x0_2 * 6364136223846793005)) + (IntKind.u64.wrap (IntKind.i64.wrap (rde x0_0 x0_1))))) + 1442695040888963407)) 40) 255)), x0_0, (IntKind.i64.wrap (x0_1 + 1)), (IntKind.u64.wrap ((IntKind.u64.wrap ((IntKind.u64.wrap (x0_2 * 6364136223846793005)) + (IntKind.u64.wrap (IntKind.i64.wrap (rde x0_0 x0_1))))) + 1442695040888963407))))) else (none)) else (if (IntKind.i64.wrap (x0_1 + 1)) ≤ (x0_0.length : Int) then (some (0, x0_0, (IntKind.i64.wrap (x0_1 + 1)), (IntKind.u64.wrap ((IntKind.u64.wrap ((IntKind.u64.wrap (x0_2 * 6364136223846793005)) + (IntKind.u64.wrap 0))) + 1442695040888963407)))) else (some ((IntKind.i64.wrap (bitI .and .u64 (shrI .u64 (IntKind.u64.wrap ((IntKind.u64.wrap ((IntKind.u64.wrap (x0_2 * 6364136223846793005)) + (IntKind.u64.wrap 0))) + 1442695040888963407)) 40) 255)), x0_0, (IntKind.i64.wrap (x0_1 + 1)), (IntKind.u64.wrap ((IntKind.u64.wrap ((IntKind.u64.wrap (x0_2 * 6364136223846793005)) + (IntKind.u64.wrap 0))) + 1442695040888963407)))))
theorem spec_l1Cur_next.f.br (x0_0 : List Int) (x0_1 : Int) (x0_2 : Int) : LeO (spec_l1Cur_next.f x0_0 x0_1 x0_2) (S.spec_l1Cur_next.f x0_0 x0_1 x0_2) := by
  refine LeO.of (S.spec_l1Cur_next.f.eq _ _ _) ?_
  unfold spec_l1Cur_next.f
  exact (LeO.dec (fun h0 => (LeO.tst fun h1 => (LeO.rdI h1 h0 (LeO.dec (fun h2 => LeO.refl _) (fun h2 => LeO.refl _))))) (fun h0 => (LeO.dec (fun h1 => LeO.refl _) (fun h1 => LeO.refl _))))
def spec_l1Cur_pick.f (x0_0 : List Int) (x0_1 : Int) (x0_2 : Int) (x1 : Int) : Option (Int × (List Int) × Int × Int) := if x1 ≤ 1 then (some (0, x0_0, x0_1, x0_2)) else ((spec_l1Cur_next.f x0_0 x0_1 x0_2).bind fun y2 => (if x1 > 200 then ((spec_l1Cur_next.f y2.2.1 y2.2.2.1 y2.2.2.2).bind fun y5 => (if x1 = 0 then (none) else (some (((IntKind.i64.wrap ((IntKind.i64.wrap (y2.1 * 256)) + y5.1)).tmod x1), y5.2.1, y5.2.2.1, y5.2.2.2)))) else (if x1 = 0 then (none) else (some ((y2.1.tmod x1), y2.2.1, y2.2.2.1, y2.2.2.2)))))
theorem spec_l1Cur_pick.f.br (x0_0 : List Int) (x0_1 : Int) (x0_2 : Int) (x1 : Int) : LeO (spec_l1Cur_pick.f x0_0 x0_1 x0_2 x1) (S.spec_l1Cur_pick.f x0_0 x0_1 x0_2 x1) := by
  refine LeO.of (S.spec_l1Cur_pick.f.eq _ _ _ _) ?_
  unfold spec_l1Cur_pick.f
  exact (LeO.dec (fun h0 => LeO.refl _) (fun h0 => (LeO.bind (spec_l1Cur_next.f.br _ _ _) (fun y2 => (LeO.dec (fun h1 => (LeO.bind (spec_l1Cur_next.f.br _ _ _) (fun y5 => (LeO.ite (LeO.none _) (LeO.refl _))))) (fun h1 => (LeO.ite (LeO.none _) (LeO.refl _))))))))
def spec_l1Cur_one.f (x0_0 : List Int) (x0_1 : Int) (x0_2 : Int) (x1 : Int) : Option (Bool × (List Int) × Int × Int) := (spec_l1Cur_pick.f x0_0 x0_1 x0_2 x1).bind fun y1 => (some ((y1.1 == 0), y1.2.1, y1.2.2.1, y1.2.2.2))
theorem spec_l1Cur_one.f.br (x0_0 : List Int) (x0_1 : Int) (x0_2 : Int) (x1 : Int) : LeO (spec_l1Cur_one.f x0_0 x0_1 x0_2 x1) (S.spec_l1Cur_one.f x0_0 x0_1 x0_2 x1) := by
  refine LeO.of (S.spec_l1Cur_one.f.eq _ _ _ _) ?_
  unfold spec_l1Cur_one.f
  exact (LeO.bind (spec_l1Cur_pick.f.br _ _ _ _) (fun y1 => LeO.refl _))
def spec_l1Cur_among.f (x0_0 : List Int) (x0_1 : Int) (x0_2 : Int) (x1 : List Int) : Option (Int × (List Int) × Int × Int) := (spec_l1Cur_pick.f x0_0 x0_1 x0_2 (x1.length : Int)).bind fun y2 => (if 0 ≤ y2.1 then (if y2.1 < (x1.length : Int) then (some ((rde x1 y2.1), y2.2.1, y2.2.2.1, y2.2.2.2)) else (none)) else (none))
theorem spec_l1Cur_among.f.br (x0_0 : List Int) (x0_1 : Int) (x0_2 : Int) (x1 : List Int) : LeO (spec_l1Cur_among.f x0_0 x0_1 x0_2 x1) (S.spec_l1Cur_among.f x0_0 x0_1 x0_2 x1) := by
  refine LeO.of (S.spec_l1Cur_among.f.eq _ _ _ _) ?_
  unfold spec_l1Cur_among.f
  exact (LeO.bind (spec_l1Cur_pick.f.br _ _ _ _) (fun y2 => (LeO.tst fun h0 => (LeO.tst fun h1 => (LeO.rdI h0 h1 (LeO.refl _))))))
def spec_l1Cur_year.f (x0_0 : List Int) (x0_1 : Int) (x0_2 : Int) : Option (Int × (List Int) × Int × Int) := (spec_l1Cur_one.f x0_0 x0_1 x0_2 10).bind fun y1 => (if y1.1 = true then ((spec_l1Cur_among.f y1.2.1 y1.2.2.1 y1.2.2.2 [(-1), 0, 1, 2999, 3000, 3001, 4611686018427387904]).bind fun y2 => (some (y2.1, y2.2.1, y2.2.2.1, y2.2.2.2))) else ((spec_l1Cur_pick.f y1.2.1 y1.2.2.1 y1.2.2.2 110).bind fun y3 => (some ((IntKind.i64.wrap (1925 + y3.1)), y3.2.1, y3.2.2.1, y3.2.2.2))))
theorem spec_l1Cur_year.f.br (x0_0 : List Int) (x0_1 : Int) (x0_2 : Int) : LeO (spec_l1Cur_year.f x0_0 x0_1 x0_2) (S.spec_l1Cur_year.f x0_0 x0_1 x0_2) := by
  refine LeO.of (S.spec_l1Cur_year.f.eq _ _ _) ?_
  unfold spec_l1Cur_year.f
  exact (LeO.bind (spec_l1Cur_one.f.br _ _ _ _) (fun y1 => (LeO.ite' (fun h0 => (LeO.bind (spec_l1Cur_among.f.br _ _ _ _) (fun y2 => LeO.refl _))) (fun h0 => (LeO.bind (spec_l1Cur_pick.f.br _ _ _ _) (fun y3 => LeO.refl _))))))
def spec_l1Least.f (x0 : Int) (x1 : Int) : Option (Int) := if x0 < x1 then (some x0) else (some x1)
theorem spec_l1Least.f.br (x0 : Int) (x1 : Int) : LeO (spec_l1Least.f x0 x1) (S.spec_l1Least.f x0 x1) := by
  refine LeO.of (S.spec_l1Least.f.eq _ _) ?_
  unfold spec_l1Least.f
  exact (LeO.dec (fun h0 => LeO.refl _) (fun h0 => LeO.refl _))
def spec_l1Cur_span.f (x0_0 : List Int) (x0_1 : Int) (x0_2 : Int) : Option (Int × Int × (List Int) × Int × Int) := (spec_l1Cur_year.f x0_0 x0_1 x0_2).bind fun y1 => ((spec_l1Cur_one.f y1.2.1 y1.2.2.1 y1.2.2.2 10).bind fun y2 => (if y2.1 = true then ((spec_l1Least.f y1.1 5000).bind fun y3 => ((spec_l1Cur_among.f y2.2.1 y2.2.2.1 y2.2.2.2 [(-1), 0, 199, 200, 201]).bind fun y4 => (some (y1.1, (IntKind.i64.wrap (y3 + y4.1)), y4.2.1, y4.2.2.1, y4.2.2.2)))) else ((spec_l1Least.f y1.1 5000).bind fun y6 => ((spec_l1Cur_pick.f y2.2.1 y2.2.2.1 y2.2.2.2 50).bind fun y7 => (some (y1.1, (IntKind.i64.wrap (y6 + y7.1)), y7.2.1, y7.2.2.1, y7.2.2.2))))))
theorem spec_l1Cur_span.f.br (x0_0 : List Int) (x0_1 : Int) (x0_2 : Int) : LeO (spec_l1Cur_span.f x0_0 x0_1 x0_2) (S.spec_l1Cur_span.f x0_0 x0_1 x0_2) := by
  refine LeO.of (S.spec_l1Cur_span.f.eq _ _ _) ?_
  unfold spec_l1Cur_span.f
  exact (LeO.bind (spec_l1Cur_year.f.br _ _ _) (fun y1 => (LeO.bind (spec_l1Cur_one.f.br _ _ _ _) (fun y2 => (LeO.ite' (fun h0 => (LeO.bind (spec_l1Least.f.br _ _) (fun y3 => (LeO.bind (spec_l1Cur_among.f.br _ _ _ _) (fun y4 => LeO.refl _))))) (fun h0 => (LeO.bind (spec_l1Least.f.br _ _) (fun y6 => (LeO.bind (spec_l1Cur_pick.f.br _ _ _ _) (fun y7 => LeO.refl _))))))))))
def spec_l1Cur_sureBorn.l0 : Nat → List Int → Int → List Int → Int → Int → Option ((List Int) × (List Int) × Int × Int)
  | 0, _, _, _, _, _ => none
  | k + 1, x5, x6, x0_0, x0_1, x0_2 => if x6 > 0 then ((spec_l1Cur_pick.f x0_0 x0_1 x0_2 12).bind fun y2 => ((spec_l1Cur_pick.f y2.2.1 y2.2.2.1 y2.2.2.2 3).bind fun y5 => (if x5.length < 17592186044416 then (spec_l1Cur_sureBorn.l0 k (x5 ++ [(IntKind.i64.wrap ((IntKind.i64.wrap (1930 + (IntKind.i64.wrap (5 * y2.1)))) + (IntKind.i64.wrap (y5.1.tdiv 2))))]) (IntKind.i64.wrap (x6 - 1)) y5.2.1 y5.2.2.1 y5.2.2.2) else (none)))) else (some (x5, x0_0, x0_1, x0_2))
def spec_l1Cur_sureBorn.f (k : Nat) (x0_0 : List Int) (x0_1 : Int) (x0_2 : Int) (x1 : Int) : Option ((List Int) × (List Int) × Int × Int) := (spec_l1Cur_pick.f x0_0 x0_1 x0_2 x1).bind fun y1 => (spec_l1Cur_sureBorn.l0 k [] (IntKind.i64.wrap (1 + y1.1)) y1.2.1 y1.2.2.1 y1.2.2.2)
theorem spec_l1Cur_sureBorn.br_l : ∀ k, (∀ (x5 : List Int) (x6 : Int) (x0_0 : List Int) (x0_1 : Int) (x0_2 : Int), LeO (spec_l1Cur_sureBorn.l0 k x5 x6 x0_0 x0_1 x0_2) (S.spec_l1Cur_sureBorn.l0 x5 x6 x0_0 x0_1 x0_2))
  | 0 => fun _ _ _ _ _ => LeO.none _
  | k + 1 => by
    have ih := spec_l1Cur_sureBorn.br_l k
    have ih_l0 := ih
    refine fun x5 x6 x0_0 x0_1 x0_2 => ?_
    · refine LeO.of (S.spec_l1Cur_sureBorn.l0.eq _ _ _ _ _) ?_
      show LeO (spec_l1Cur_sureBorn.l0 (k + 1) x5 x6 x0_0 x0_1 x0_2) _
      unfold spec_l1Cur_sureBorn.l0
      exact (LeO.dec (fun h0 => (LeO.bind (spec_l1Cur_pick.f.br _ _ _ _) (fun y2 => (LeO.bind (spec_l1Cur_pick.f.br _ _ _ _) (fun y5 => (LeO.tst fun h1 => (LeO.cat1 h1 (ih_l0 _ _ _ _ _)))))))) (fun h0 => LeO.refl _))
theorem spec_l1Cur_sureBorn.f.br (k : Nat) (x0_0 : List Int) (x0_1 : Int) (x0_2 : Int) (x1 : Int) : LeO (spec_l1Cur_sureBorn.f k x0_0 x0_1 x0_2 x1) (S.spec_l1Cur_sureBorn.f x0_0 x0_1 x0_2 x1) := by
  refine LeO.of (S.spec_l1Cur_sureBorn.f.eq _ _ _ _) ?_
  unfold spec_l1Cur_sureBorn.f
  have ih_l0 := (spec_l1Cur_sureBorn.br_l k)
  exact (LeO.bind (spec_l1Cur_pick.f.br _ _ _ _) (fun y1 => (ih_l0 _ _ _ _ _)))
def spec_l1Cur_born.l0 : Nat → List Int → List Int → Int → Int → Option ((List Int) × (List Int) × Int × Int)
  | 0, _, _, _, _ => none
  | k + 1, x3, x0_0, x0_1, x0_2 => (spec_l1Cur_pick.f x0_0 x0_1 x0_2 2).bind fun y2 => (if (x3.length : Int) < (IntKind.i64.wrap (10 + y2.1)) then (if x3.length < 17592186044416 then (spec_l1Cur_born.l0 k (x3 ++ [1970]) y2.2.1 y2.2.2.1 y2.2.2.2) else (none)) else (some (x3, y2.2.1, y2.2.2.1, y2.2.2.2)))
def spec_l1Cur_born.f (k : Nat) (x0_0 : List Int) (x0_1 : Int) (x0_2 : Int) : Option ((List Int) × (List Int) × Int × Int) := (spec_l1Cur_sureBorn.f k x0_0 x0_1 x0_2 5).bind fun y1 => ((spec_l1Cur_pick.f y1.2.1 y1.2.2.1 y1.2.2.2 20).bind fun y2 => (if y2.1 = 0 then (some ([], y2.2.1, y2.2.2.1, y2.2.2.2)) else (if y2.1 = 1 then ((spec_l1Cur_among.f y2.2.1 y2.2.2.1 y2.2.2.2 [(-1), 0, 2900, 2901, 4611686018427387904]).bind fun y5 => (if y1.1.length < 17592186044416 then (some ((y1.1 ++ [y5.1]), y5.2.1, y5.2.2.1, y5.2.2.2)) else (none))) else (if y2.1 = 2 then (spec_l1Cur_born.l0 k y1.1 y2.2.1 y2.2.2.1 y2.2.2.2) else (some (y1.1, y2.2.1, y2.2.2.1, y2.2.2.2))))))
theorem spec_l1Cur_born.br_l : ∀ k, (∀ (x3 : List Int) (x0_0 : List Int) (x0_1 : Int) (x0_2 : Int), LeO (spec_l1Cur_born.l0 k x3 x0_0 x0_1 x0_2) (S.spec_l1Cur_born.l0 x3 x0_0 x0_1 x0_2))
  | 0 => fun _ _ _ _ => LeO.none _
  | k + 1 => by
    have ih := spec_l1Cur_born.br_l k
    have ih_l0 := ih
    refine fun x3 x0_0 x0_1 x0_2 => ?_
    · refine LeO.of (S.spec_l1Cur_born.l0.eq _ _ _ _) ?_
      show LeO (spec_l1Cur_born.l0 (k + 1) x3 x0_0 x0_1 x0_2) _
      unfold spec_l1Cur_born.l0
      exact (LeO.bind (spec_l1Cur_pick.f.br _ _ _ _) (fun y2 => (LeO.dec (fun h0 => (LeO.tst fun h1 => (LeO.cat1 h1 (ih_l0 _ _ _ _)))) (fun h0 => LeO.refl _))))
theorem spec_l1Cur_born.f.br (k : Nat) (x0_0 : List Int) (x0_1 : Int) (x0_2 : Int) : LeO (spec_l1Cur_born.f k x0_0 x0_1 x0_2) (S.spec_l1Cur_born.f x0_0 x0_1 x0_2) := by
  refine LeO.of (S.spec_l1Cur_born.f.eq _ _ _) ?_
  unfold spec_l1Cur_born.f
  have ih_l0 := (spec_l1Cur_born.br_l k)
  exact (LeO.bind (spec_l1Cur_sureBorn.f.br k _ _ _ _) (fun y1 => (LeO.bind (spec_l1Cur_pick.f.br _ _ _ _) (fun y2 => (LeO.beq (fun h0 => LeO.refl _) (fun h0 => (LeO.beq (fun h1 => (LeO.bind (spec_l1Cur_among.f.br _ _ _ _) (fun y5 => (LeO.tst fun h2 => (LeO.cat1 h2 (LeO.refl _)))))) (fun h1 => (LeO.beq (fun h2 => (ih_l0 _ _ _ _)) (fun h2 => LeO.refl _))))))))))
def spec_l1Cur_jubilee.f (x0_0 : List Int) (x0_1 : Int) (x0_2 : Int) : Option (Int × (List Int) × Int × Int) := (spec_l1Cur_among.f x0_0 x0_1 x0_2 [1, 5, 5, 10, 10, 20, 25, 50, 100, 101, 0]).bind fun y1 => (some (y1.1, y1.2.1, y1.2.2.1, y1.2.2.2))
theorem spec_l1Cur_jubilee.f.br (x0_0 : List Int) (x0_1 : Int) (x0_2 : Int) : LeO (spec_l1Cur_jubilee.f x0_0 x0_1 x0_2) (S.spec_l1Cur_jubilee.f x0_0 x0_1 x0_2) := by
  refine LeO.of (S.spec_l1Cur_jubilee.f.eq _ _ _) ?_
  unfold spec_l1Cur_jubilee.f
  exact (LeO.bind (spec_l1Cur_among.f.br _ _ _ _) (fun y1 => LeO.refl _))
def spec_DrawCountJubilees.f (k : Nat) (x0 : List Int) : Option ((List Int) × Int × Int × Int) := (spec_l1Cur_span.f x0 0 0).bind fun y1 => ((spec_l1Cur_born.f k y1.2.2.1 y1.2.2.2.1 y1.2.2.2.2).bind fun y2 => ((spec_l1Cur_jubilee.f y2.2.1 y2.2.2.1 y2.2.2.2).bind fun y3 => (some (y2.1, y1.1, y1.2.1, y3.1))))
theorem spec_DrawCountJubilees.f.br (k : Nat) (x0 : List Int) : LeO (spec_DrawCountJubilees.f k x0) (S.spec_DrawCountJubilees.f x0) := by
  refine LeO.of (S.spec_DrawCountJubilees.f.eq _) ?_
  unfold spec_DrawCountJubilees.f
  exact (LeO.bind (spec_l1Cur_span.f.br _ _ _) (fun y1 => (LeO.bind (spec_l1Cur_born.f.br k _ _ _) (fun y2 => (LeO.bind (spec_l1Cur_jubilee.f.br _ _ _) (fun y3 => LeO.refl _))))))
def spec_DrawCalendarOf.f (k : Nat) (x0 : List Int) : Option ((List Int) × Int × Int × Int) := (spec_DrawCountJubilees.f k x0).bind fun y1 => (some (y1.1, y1.2.1, y1.2.2.1, y1.2.2.2))
theorem spec_DrawCalendarOf.f.br (k : Nat) (x0 : List Int) : LeO (spec_DrawCalendarOf.f k x0) (S.spec_DrawCalendarOf.f x0) := by
  refine LeO.of (S.spec_DrawCalendarOf.f.eq _) ?_
  unfold spec_DrawCalendarOf.f
  exact (LeO.bind (spec_DrawCountJubilees.f.br k _) (fun y1 => LeO.refl _))
def impl_between.f (x0 : Int) (x1 : Int) (x2 : Int) : Option (Bool) := if x0 ≥ x1 then (some (decide (x0 ≤ x2))) else (some false)
theorem impl_between.f.br (x0 : Int) (x1 : Int) (x2 : Int) : LeO (impl_between.f x0 x1 x2) (S.impl_between.f x0 x1 x2) := by
  refine LeO.of (S.impl_between.f.eq _ _ _) ?_
  unfold impl_between.f
  exact (LeO.dec (fun h0 => LeO.refl _) (fun h0 => LeO.refl _))
def impl_areBetween_1.f (x0 : Int) (x1 : Int) (x2 : Int) : Option (Bool) := (impl_between.f x0 x1 x2).bind fun y1 => (some (!y1))
theorem impl_areBetween_1.f.br (x0 : Int) (x1 : Int) (x2 : Int) : LeO (impl_areBetween_1.f x0 x1 x2) (S.impl_areBetween_1.f x0 x1 x2) := by
  refine LeO.of (S.impl_areBetween_1.f.eq _ _ _) ?_
  unfold impl_areBetween_1.f
  exact (LeO.bind (impl_between.f.br _ _ _) (fun y1 => LeO.refl _))
def slices_IndexFunc.l0 : Nat → List Int → Int → Int → Int → Int → Option (Int)
  | 0, _, _, _, _, _ => none
  | k + 1, x0, x1_0, x1_1, x7, x8 => if x8 < x7 then (if 0 ≤ x8 then (if x8 < (x0.length : Int) then (((impl_areBetween_1.f (rde x0 x8) x1_0 x1_1).bind some).bind fun y3 => (if y3 = true then (some x8) else (slices_IndexFunc.l0 k x0 x1_0 x1_1 x7 (IntKind.i64.wrap (x8 + 1))))) else (none)) else (none)) else (some (-1))
def slices_IndexFunc.f (k : Nat) (x0 : List Int) (x1_0 : Int) (x1_1 : Int) : Option (Int) := slices_IndexFunc.l0 k x0 x1_0 x1_1 (x0.length : Int) 0
theorem slices_IndexFunc.br_l : ∀ k, (∀ (x0 : List Int) (x1_0 : Int) (x1_1 : Int) (x7 : Int) (x8 : Int), LeO (slices_IndexFunc.l0 k x0 x1_0 x1_1 x7 x8) (S.slices_IndexFunc.l0 x0 x1_0 x1_1 x7 x8))
  | 0 => fun _ _ _ _ _ => LeO.none _
  | k + 1 => by
    have ih := slices_IndexFunc.br_l k
    have ih_l0 := ih
    refine fun x0 x1_0 x1_1 x7 x8 => ?_
    · refine LeO.of (S.slices_IndexFunc.l0.eq _ _ _ _ _) ?_
      show LeO (slices_IndexFunc.l0 (k + 1) x0 x1_0 x1_1 x7 x8) _
      unfold slices_IndexFunc.l0
      exact (LeO.dec (fun h0 => (LeO.tst fun h1 => (LeO.tst fun h2 => (LeO.rdI h1 h2 (LeO.bind (LeO.bind (impl_areBetween_1.f.br _ _ _) (fun _ => LeO.refl _)) (fun y3 => (LeO.ite' (fun h3 => LeO.refl _) (fun h3 => (ih_l0 _ _ _ _ _))))))))) (fun h0 => LeO.refl _))
theorem slices_IndexFunc.f.br (k : Nat) (x0 : List Int) (x1_0 : Int) (x1_1 : Int) : LeO (slices_IndexFunc.f k x0 x1_0 x1_1) (S.slices_IndexFunc.f x0 x1_0 x1_1) := by
  refine LeO.of (S.slices_IndexFunc.f.eq _ _ _) ?_
  unfold slices_IndexFunc.f
  have ih_l0 := (slices_IndexFunc.br_l k)
  exact (ih_l0 _ _ _ _ _)
def slices_ContainsFunc.f (k : Nat) (x0 : List Int) (x1_0 : Int) (x1_1 : Int) : Option (Bool) := (slices_IndexFunc.f k x0 x1_0 x1_1).bind fun y1 => (some (decide (y1 ≥ 0)))
theorem slices_ContainsFunc.f.br (k : Nat) (x0 : List Int) (x1_0 : Int) (x1_1 : Int) : LeO (slices_ContainsFunc.f k x0 x1_0 x1_1) (S.slices_ContainsFunc.f x0 x1_0 x1_1) := by
  refine LeO.of (S.slices_ContainsFunc.f.eq _ _ _) ?_
  unfold slices_ContainsFunc.f
  exact (LeO.bind (slices_IndexFunc.f.br k _ _ _) (fun y1 => LeO.refl _))
theorem areBetween_1_is (x a b : Int) : impl_areBetween_1.f x a b = some (!(decide (a ≤ x) && decide (x ≤ b))) := by
  unfold impl_areBetween_1.f impl_between.f
  by_cases h : x ≥ a
  · rw [if_pos h, decide_eq_true (show a ≤ x from h), Bool.true_and]; rfl
  · rw [if_neg h, decide_eq_false (show ¬ a ≤ x from h), Bool.false_and]; rfl
theorem IndexFunc_l (l : List Int) (a b : Int) (hl : l.length < 4611686018427387904) : ∀ (d i k : Nat), i + d = l.length → d < k → ∃ r, slices_IndexFunc.l0 k l a b (l.length : Int) (i : Int) = some r ∧ decide (r ≥ 0) = !((l.drop i).all fun x => decide (a ≤ x) && decide (x ≤ b)) := by
  intro d
  induction d with
  | zero =>
    intro i k h hk
    obtain ⟨k, rfl⟩ : ∃ m, k = m + 1 := ⟨k - 1, by omega⟩
    unfold slices_IndexFunc.l0
    rw [if_neg (by omega), List.drop_eq_nil_of_le (by omega)]
    exact ⟨_, rfl, by simp⟩
  | succ d ih =>
    intro i k h hk
    obtain ⟨k, rfl⟩ : ∃ m, k = m + 1 := ⟨k - 1, by omega⟩
    unfold slices_IndexFunc.l0
    have hi : i < l.length := by omega
    rw [if_pos (by omega), if_pos (by omega), if_pos (by omega), areBetween_1_is, List.drop_eq_getElem_cons hi, List.all_cons]
    have e : rde l (i : Int) = l[i] := by unfold rde; rw [Int.toNat_natCast, List.getD_eq_getElem?_getD, List.getElem?_eq_getElem hi, Option.getD_some]
    rw [e]
    simp only [Option.bind_some]
    cases hb : (decide (a ≤ l[i]) && decide (l[i] ≤ b))
    · exact ⟨(i : Int), by simp, by simp⟩
    · have hw : IntKind.i64.wrap ((i : Int) + 1) = ((i + 1 : Nat) : Int) := by rw [Go.IntWalk.i64_left]; unfold Go.RowKit.wrap64; omega
      obtain ⟨r, h1, h2⟩ := ih (i + 1) k (by omega) (by omega)
      refine ⟨r, ?_, ?_⟩
      · rw [hw, h1]; rfl
      · rw [h2, Bool.true_and]
/-- Are all numbers of a list in their bounds? -/
def impl_areBetween.f (x0 : List Int) (x1 : Int) (x2 : Int) : Option (Bool) := if x0.length < 4611686018427387904 then some (x0.all fun x => decide (x1 ≤ x) && decide (x ≤ x2)) else none
theorem impl_areBetween.f.br (x0 : List Int) (x1 : Int) (x2 : Int) : LeO (impl_areBetween.f x0 x1 x2) (S.impl_areBetween.f x0 x1 x2) := by
  unfold impl_areBetween.f
  split
  · rename_i hl
    obtain ⟨r, h1, h2⟩ := IndexFunc_l x0 x1 x2 hl x0.length 0 (x0.length + 1) (by omega) (by omega)
    rw [List.drop_zero] at h2
    have h3 : slices_ContainsFunc.f (x0.length + 1) x0 x1 x2 = some (decide (r ≥ 0)) := by
      unfold slices_ContainsFunc.f slices_IndexFunc.f
      have h1' : slices_IndexFunc.l0 (x0.length + 1) x0 x1 x2 (x0.length : Int) 0 = some r := h1
      rw [h1']; rfl
    have h4 := slices_ContainsFunc.f.br _ _ _ _ _ h3
    refine LeO.of (S.impl_areBetween.f.eq _ _ _) ?_
    rw [h4, h2]
    simp only [Option.bind_some, Bool.not_not]
    exact LeO.refl _
  · exact LeO.none _
def impl_AreBirths.f (x0 : List Int) : Option (Bool) := (impl_between.f (x0.length : Int) 1 10).bind fun y2 => (if y2 = true then ((impl_areBetween.f x0 0 2900).bind fun y3 => (some y3)) else (some false))
theorem impl_AreBirths.f.br (x0 : List Int) : LeO (impl_AreBirths.f x0) (S.impl_AreBirths.f x0) := by
  refine LeO.of (S.impl_AreBirths.f.eq _) ?_
  unfold impl_AreBirths.f
  exact (LeO.bind (impl_between.f.br _ _ _) (fun y2 => (LeO.ite' (fun h0 => (LeO.bind (impl_areBetween.f.br _ _ _) (fun y3 => LeO.refl _))) (fun h0 => LeO.refl _))))
def impl_isYear.f (x0 : Int) : Option (Bool) := (impl_between.f x0 0 3000).bind fun y1 => (some y1)
theorem impl_isYear.f.br (x0 : Int) : LeO (impl_isYear.f x0) (S.impl_isYear.f x0) := by
  refine LeO.of (S.impl_isYear.f.eq _) ?_
  unfold impl_isYear.f
  exact (LeO.bind (impl_between.f.br _ _ _) (fun y1 => LeO.refl _))
def impl_isSpan.f (x0 : Int) (x1 : Int) : Option (Bool) := (impl_isYear.f x0).bind fun y1 => (if y1 = true then ((impl_between.f x1 x0 3000).bind fun y2 => (if y2 = true then (some (decide ((IntKind.i64.wrap (x1 - x0)) < 200))) else (some false))) else (some false))
theorem impl_isSpan.f.br (x0 : Int) (x1 : Int) : LeO (impl_isSpan.f x0 x1) (S.impl_isSpan.f x0 x1) := by
  refine LeO.of (S.impl_isSpan.f.eq _ _) ?_
  unfold impl_isSpan.f
  exact (LeO.bind (impl_isYear.f.br _) (fun y1 => (LeO.ite' (fun h0 => (LeO.bind (impl_between.f.br _ _ _) (fun y2 => (LeO.ite' (fun h1 => LeO.refl _) (fun h1 => LeO.refl _))))) (fun h0 => LeO.refl _))))
def impl_isEvery.f (x0 : Int) : Option (Bool) := (impl_between.f x0 1 100).bind fun y1 => (some y1)
theorem impl_isEvery.f.br (x0 : Int) : LeO (impl_isEvery.f x0) (S.impl_isEvery.f x0) := by
  refine LeO.of (S.impl_isEvery.f.eq _) ?_
  unfold impl_isEvery.f
  exact (LeO.bind (impl_between.f.br _ _ _) (fun y1 => LeO.refl _))
def impl_isAge.f (x0 : Int) : Option (Bool) := (impl_between.f x0 0 120).bind fun y1 => (some y1)
theorem impl_isAge.f.br (x0 : Int) : LeO (impl_isAge.f x0) (S.impl_isAge.f x0) := by
  refine LeO.of (S.impl_isAge.f.eq _) ?_
  unfold impl_isAge.f
  exact (LeO.bind (impl_between.f.br _ _ _) (fun y1 => LeO.refl _))
def impl_ageIn.f (x0 : Int) (x1 : Int) : Option (Int × Bool) := (impl_isAge.f (IntKind.i64.wrap (x1 - x0))).bind fun y3 => (some ((IntKind.i64.wrap (x1 - x0)), y3))
theorem impl_ageIn.f.br (x0 : Int) (x1 : Int) : LeO (impl_ageIn.f x0 x1) (S.impl_ageIn.f x0 x1) := by
  refine LeO.of (S.impl_ageIn.f.eq _ _) ?_
  unfold impl_ageIn.f
  exact (LeO.bind (impl_isAge.f.br _) (fun y3 => LeO.refl _))
def impl_isRound.f (x0 : Int) (x1 : Int) : Option (Bool) := if x0 > 0 then (if x1 = 0 then (none) else (some ((x0.tmod x1) == 0))) else (some false)
theorem impl_isRound.f.br (x0 : Int) (x1 : Int) : LeO (impl_isRound.f x0 x1) (S.impl_isRound.f x0 x1) := by
  refine LeO.of (S.impl_isRound.f.eq _ _) ?_
  unfold impl_isRound.f
  exact (LeO.dec (fun h0 => (LeO.ite (LeO.none _) (LeO.refl _))) (fun h0 => LeO.refl _))
def impl_jubilees.l0 : Nat → Int → Int → List Int → List Int → Int → Int → Option (List Int)
  | 0, _, _, _, _, _, _ => none
  | k + 1, x1, x2, x7, x13, x14, x15 => if x15 < x14 then (if 0 ≤ x15 then (if x15 < (x13.length : Int) then ((impl_ageIn.f (rde x13 x15) x1).bind fun y3 => (if y3.2 = true then ((impl_isRound.f y3.1 x2).bind fun y4 => (if y4 = true then (if x7.length < 17592186044416 then (impl_jubilees.l0 k x1 x2 (x7 ++ [x15]) x13 x14 (IntKind.i64.wrap (x15 + 1))) else (none)) else (impl_jubilees.l0 k x1 x2 x7 x13 x14 (IntKind.i64.wrap (x15 + 1))))) else (impl_jubilees.l0 k x1 x2 x7 x13 x14 (IntKind.i64.wrap (x15 + 1))))) else (none)) else (none)) else (some x7)
def impl_jubilees.f (k : Nat) (x0 : List Int) (x1 : Int) (x2 : Int) : Option (List Int) := impl_jubilees.l0 k x1 x2 [] x0 (x0.length : Int) 0
theorem impl_jubilees.br_l : ∀ k, (∀ (x1 : Int) (x2 : Int) (x7 : List Int) (x13 : List Int) (x14 : Int) (x15 : Int), LeO (impl_jubilees.l0 k x1 x2 x7 x13 x14 x15) (S.impl_jubilees.l0 x1 x2 x7 x13 x14 x15))
  | 0 => fun _ _ _ _ _ _ => LeO.none _
  | k + 1 => by
    have ih := impl_jubilees.br_l k
    have ih_l0 := ih
    refine fun x1 x2 x7 x13 x14 x15 => ?_
    · refine LeO.of (S.impl_jubilees.l0.eq _ _ _ _ _ _) ?_
      show LeO (impl_jubilees.l0 (k + 1) x1 x2 x7 x13 x14 x15) _
      unfold impl_jubilees.l0
      exact (LeO.dec (fun h0 => (LeO.tst fun h1 => (LeO.tst fun h2 => (LeO.rdI h1 h2 (LeO.bind (impl_ageIn.f.br _ _) (fun y3 => (LeO.ite' (fun h3 => (LeO.bind (impl_isRound.f.br _ _) (fun y4 => (LeO.ite' (fun h4 => (LeO.tst fun h5 => (LeO.cat1 h5 (ih_l0 _ _ _ _ _ _)))) (fun h4 => (ih_l0 _ _ _ _ _ _)))))) (fun h3 => (ih_l0 _ _ _ _ _ _))))))))) (fun h0 => LeO.refl _))
theorem impl_jubilees.f.br (k : Nat) (x0 : List Int) (x1 : Int) (x2 : Int) : LeO (impl_jubilees.f k x0 x1 x2) (S.impl_jubilees.f x0 x1 x2) := by
  refine LeO.of (S.impl_jubilees.f.eq _ _ _) ?_
  unfold impl_jubilees.f
  have ih_l0 := (impl_jubilees.br_l k)
  exact (ih_l0 _ _ _ _ _ _)
mutual
def impl_calendar.j0 : Nat → List Int → Int → Int → Int → Bool → Option ((List (List Int)) × Bool)
  | 0, _, _, _, _, _ => none
  | k + 1, x0, x1, x2, x3, x26 => if x26 = true then (some ([], false)) else (impl_calendar.l0 k x0 x2 x3 [] x1)
def impl_calendar.l0 : Nat → List Int → Int → Int → List (List Int) → Int → Option ((List (List Int)) × Bool)
  | 0, _, _, _, _, _ => none
  | k + 1, x0, x2, x3, x10, x11 => if x11 ≤ x2 then ((impl_jubilees.f k x0 x11 x3).bind fun y2 => (if (y2.length : Int) > 0 then (if [x11].length + y2.length < 17592186044416 then (if x10.length < 5864062014805 then (impl_calendar.l0 k x0 x2 x3 (x10 ++ [([x11] ++ y2)]) (IntKind.i64.wrap (x11 + 1))) else (none)) else (none)) else (impl_calendar.l0 k x0 x2 x3 x10 (IntKind.i64.wrap (x11 + 1))))) else (some (x10, true))
end
def impl_calendar.f (k : Nat) (x0 : List Int) (x1 : Int) (x2 : Int) (x3 : Int) : Option ((List (List Int)) × Bool) := (impl_AreBirths.f x0).bind fun y1 => (if y1 = true then ((impl_isSpan.f x1 x2).bind fun y9 => (if y9 = true then ((impl_isEvery.f x3).bind fun y11 => (impl_calendar.j0 k x0 x1 x2 x3 (!y11))) else (impl_calendar.j0 k x0 x1 x2 x3 true))) else (impl_calendar.j0 k x0 x1 x2 x3 true))
theorem impl_calendar.br_l : ∀ k, (∀ (x0 : List Int) (x1 : Int) (x2 : Int) (x3 : Int) (x26 : Bool), LeO (impl_calendar.j0 k x0 x1 x2 x3 x26) (S.impl_calendar.j0 x0 x1 x2 x3 x26)) ∧ (∀ (x0 : List Int) (x2 : Int) (x3 : Int) (x10 : List (List Int)) (x11 : Int), LeO (impl_calendar.l0 k x0 x2 x3 x10 x11) (S.impl_calendar.l0 x0 x2 x3 x10 x11))
  | 0 => ⟨fun _ _ _ _ _ => LeO.none _, fun _ _ _ _ _ => LeO.none _⟩
  | k + 1 => by
    have ih := impl_calendar.br_l k
    obtain ⟨ih_j0, ih_l0⟩ := ih
    refine ⟨fun x0 x1 x2 x3 x26 => ?_, fun x0 x2 x3 x10 x11 => ?_⟩
    · refine LeO.of (S.impl_calendar.j0.eq _ _ _ _ _) ?_
      unfold impl_calendar.j0
      exact (LeO.ite' (fun h0 => LeO.refl _) (fun h0 => (ih_l0 _ _ _ _ _)))
    · refine LeO.of (S.impl_calendar.l0.eq _ _ _ _ _) ?_
      unfold impl_calendar.l0
      exact (LeO.dec (fun h0 => (LeO.bind (impl_jubilees.f.br k _ _ _) (fun y2 => (LeO.dec (fun h1 => (LeO.tst fun h2 => (LeO.cat h2 (LeO.tst fun h3 => (LeO.cat1 h3 (ih_l0 _ _ _ _ _)))))) (fun h1 => (ih_l0 _ _ _ _ _)))))) (fun h0 => LeO.refl _))
theorem impl_calendar.f.br (k : Nat) (x0 : List Int) (x1 : Int) (x2 : Int) (x3 : Int) : LeO (impl_calendar.f k x0 x1 x2 x3) (S.impl_calendar.f x0 x1 x2 x3) := by
  refine LeO.of (S.impl_calendar.f.eq _ _ _ _) ?_
  unfold impl_calendar.f
  have ih_j0 := (impl_calendar.br_l k).1
  exact (LeO.bind (impl_AreBirths.f.br _) (fun y1 => (LeO.nob (fun h0 => (LeO.bind (impl_isSpan.f.br _ _) (fun y9 => (LeO.nob (fun h1 => (LeO.bind (impl_isEvery.f.br _) (fun y11 => (ih_j0 _ _ _ _ _)))) (fun h1 => (ih_j0 _ _ _ _ _)))))) (fun h0 => (ih_j0 _ _ _ _ _)))))
def impl_CalendarOf.f (k : Nat) (x0 : List Int) (x1 : Int) (x2 : Int) (x3 : Int) : Option ((List (List Int)) × Bool) := (impl_calendar.f k x0 x1 x2 x3).bind fun y1 => (some (y1.1, y1.2))
theorem impl_CalendarOf.f.br (k : Nat) (x0 : List Int) (x1 : Int) (x2 : Int) (x3 : Int) : LeO (impl_CalendarOf.f k x0 x1 x2 x3) (S.impl_CalendarOf.f x0 x1 x2 x3) := by
  refine LeO.of (S.impl_CalendarOf.f.eq _ _ _ _) ?_
  unfold impl_CalendarOf.f
  exact (LeO.bind (impl_calendar.f.br k _ _ _ _) (fun y1 => LeO.refl _))
def spec_l1In.f (x0 : Int) (x1 : Int) (x2 : Int) : Option (Bool) := if x0 ≥ x1 then (some (decide (x0 ≤ x2))) else (some false)
theorem spec_l1In.f.br (x0 : Int) (x1 : Int) (x2 : Int) : LeO (spec_l1In.f x0 x1 x2) (S.spec_l1In.f x0 x1 x2) := by
  refine LeO.of (S.spec_l1In.f.eq _ _ _) ?_
  unfold spec_l1In.f
  exact (LeO.dec (fun h0 => LeO.refl _) (fun h0 => LeO.refl _))
def spec_l1All.l0 : Nat → Int → Int → List Int → Int → Int → Option (Bool)
  | 0, _, _, _, _, _ => none
  | k + 1, x1, x2, x9, x10, x11 => if x11 < x10 then (if 0 ≤ x11 then (if x11 < (x9.length : Int) then ((spec_l1In.f (rde x9 x11) x1 x2).bind fun y3 => (if y3 = true then (spec_l1All.l0 k x1 x2 x9 x10 (IntKind.i64.wrap (x11 + 1))) else (some false))) else (none)) else (none)) else (some true)
def spec_l1All.f (k : Nat) (x0 : List Int) (x1 : Int) (x2 : Int) : Option (Bool) := spec_l1All.l0 k x1 x2 x0 (x0.length : Int) 0
theorem spec_l1All.br_l : ∀ k, (∀ (x1 : Int) (x2 : Int) (x9 : List Int) (x10 : Int) (x11 : Int), LeO (spec_l1All.l0 k x1 x2 x9 x10 x11) (S.spec_l1All.l0 x1 x2 x9 x10 x11))
  | 0 => fun _ _ _ _ _ => LeO.none _
  | k + 1 => by
    have ih := spec_l1All.br_l k
    have ih_l0 := ih
    refine fun x1 x2 x9 x10 x11 => ?_
    · refine LeO.of (S.spec_l1All.l0.eq _ _ _ _ _) ?_
      show LeO (spec_l1All.l0 (k + 1) x1 x2 x9 x10 x11) _
      unfold spec_l1All.l0
      exact (LeO.dec (fun h0 => (LeO.tst fun h1 => (LeO.tst fun h2 => (LeO.rdI h1 h2 (LeO.bind (spec_l1In.f.br _ _ _) (fun y3 => (LeO.nob (fun h3 => (ih_l0 _ _ _ _ _)) (fun h3 => LeO.refl _)))))))) (fun h0 => LeO.refl _))
theorem spec_l1All.f.br (k : Nat) (x0 : List Int) (x1 : Int) (x2 : Int) : LeO (spec_l1All.f k x0 x1 x2) (S.spec_l1All.f x0 x1 x2) := by
  refine LeO.of (S.spec_l1All.f.eq _ _ _) ?_
  unfold spec_l1All.f
  have ih_l0 := (spec_l1All.br_l k)
  exact (ih_l0 _ _ _ _ _)
def spec_roBorn.f (k : Nat) (x0 : List Int) : Option (Bool) := (spec_l1In.f (x0.length : Int) 1 10).bind fun y2 => (if y2 = true then ((spec_l1All.f k x0 0 2900).bind fun y3 => (some y3)) else (some false))
theorem spec_roBorn.f.br (k : Nat) (x0 : List Int) : LeO (spec_roBorn.f k x0) (S.spec_roBorn.f x0) := by
  refine LeO.of (S.spec_roBorn.f.eq _) ?_
  unfold spec_roBorn.f
  exact (LeO.bind (spec_l1In.f.br _ _ _) (fun y2 => (LeO.ite' (fun h0 => (LeO.bind (spec_l1All.f.br k _ _ _) (fun y3 => LeO.refl _))) (fun h0 => LeO.refl _))))
def spec_roSpan.f (x0 : Int) (x1 : Int) : Option (Bool) := (spec_l1In.f x1 0 3000).bind fun y1 => (if y1 = true then ((spec_l1In.f x0 0 x1).bind fun y2 => (if y2 = true then (some (decide ((IntKind.i64.wrap (x1 - x0)) < 200))) else (some false))) else (some false))
theorem spec_roSpan.f.br (x0 : Int) (x1 : Int) : LeO (spec_roSpan.f x0 x1) (S.spec_roSpan.f x0 x1) := by
  refine LeO.of (S.spec_roSpan.f.eq _ _) ?_
  unfold spec_roSpan.f
  exact (LeO.bind (spec_l1In.f.br _ _ _) (fun y1 => (LeO.ite' (fun h0 => (LeO.bind (spec_l1In.f.br _ _ _) (fun y2 => (LeO.ite' (fun h1 => LeO.refl _) (fun h1 => LeO.refl _))))) (fun h0 => LeO.refl _))))
def spec_roEvery.f (x0 : Int) : Option (Bool) := (spec_l1In.f x0 1 100).bind fun y1 => (some y1)
theorem spec_roEvery.f.br (x0 : Int) : LeO (spec_roEvery.f x0) (S.spec_roEvery.f x0) := by
  refine LeO.of (S.spec_roEvery.f.eq _) ?_
  unfold spec_roEvery.f
  exact (LeO.bind (spec_l1In.f.br _ _ _) (fun y1 => LeO.refl _))
def spec_roAll.f (k : Nat) (x0 : List Int) (x1 : Int) (x2 : Int) (x3 : Int) : Option (Bool) := (spec_roBorn.f k x0).bind fun y1 => (if y1 = true then ((spec_roSpan.f x1 x2).bind fun y2 => (if y2 = true then ((spec_roEvery.f x3).bind fun y4 => (some y4)) else (some false))) else (some false))
theorem spec_roAll.f.br (k : Nat) (x0 : List Int) (x1 : Int) (x2 : Int) (x3 : Int) : LeO (spec_roAll.f k x0 x1 x2 x3) (S.spec_roAll.f x0 x1 x2 x3) := by
  refine LeO.of (S.spec_roAll.f.eq _ _ _ _) ?_
  unfold spec_roAll.f
  exact (LeO.bind (spec_roBorn.f.br k _) (fun y1 => (LeO.ite' (fun h0 => (LeO.bind (spec_roSpan.f.br _ _) (fun y2 => (LeO.ite' (fun h1 => (LeO.bind (spec_roEvery.f.br _) (fun y4 => LeO.refl _))) (fun h1 => LeO.refl _))))) (fun h0 => LeO.refl _))))
def spec_roAge.f (x0 : Int) (x1 : Int) : Option (Int) := (spec_l1In.f (IntKind.i64.wrap (x1 - x0)) 0 120).bind fun y2 => (if y2 = true then (some (IntKind.i64.wrap (x1 - x0))) else (some (-1)))
theorem spec_roAge.f.br (x0 : Int) (x1 : Int) : LeO (spec_roAge.f x0 x1) (S.spec_roAge.f x0 x1) := by
  refine LeO.of (S.spec_roAge.f.eq _ _) ?_
  unfold spec_roAge.f
  exact (LeO.bind (spec_l1In.f.br _ _ _) (fun y2 => (LeO.nob (fun h0 => LeO.refl _) (fun h0 => LeO.refl _))))
def spec_roRound.f (x0 : Int) (x1 : Int) : Option (Bool) := if x0 > 0 then (if x1 = 0 then (none) else (some ((x0.tmod x1) == 0))) else (some false)
theorem spec_roRound.f.br (x0 : Int) (x1 : Int) : LeO (spec_roRound.f x0 x1) (S.spec_roRound.f x0 x1) := by
  refine LeO.of (S.spec_roRound.f.eq _ _) ?_
  unfold spec_roRound.f
  exact (LeO.dec (fun h0 => (LeO.ite (LeO.none _) (LeO.refl _))) (fun h0 => LeO.refl _))
def spec_roIn.l0 : Nat → Int → Int → List Int → List Int → Int → Int → Option (List Int)
  | 0, _, _, _, _, _, _ => none
  | k + 1, x1, x2, x7, x10, x11, x12 => if x12 < x11 then (if 0 ≤ x12 then (if x12 < (x10.length : Int) then ((spec_roAge.f (rde x10 x12) x1).bind fun y3 => ((spec_roRound.f y3 x2).bind fun y4 => (if y4 = true then (if x7.length < 17592186044416 then (spec_roIn.l0 k x1 x2 (x7 ++ [x12]) x10 x11 (IntKind.i64.wrap (x12 + 1))) else (none)) else (spec_roIn.l0 k x1 x2 x7 x10 x11 (IntKind.i64.wrap (x12 + 1)))))) else (none)) else (none)) else (some x7)
def spec_roIn.f (k : Nat) (x0 : List Int) (x1 : Int) (x2 : Int) : Option (List Int) := spec_roIn.l0 k x1 x2 [] x0 (x0.length : Int) 0
theorem spec_roIn.br_l : ∀ k, (∀ (x1 : Int) (x2 : Int) (x7 : List Int) (x10 : List Int) (x11 : Int) (x12 : Int), LeO (spec_roIn.l0 k x1 x2 x7 x10 x11 x12) (S.spec_roIn.l0 x1 x2 x7 x10 x11 x12))
  | 0 => fun _ _ _ _ _ _ => LeO.none _
  | k + 1 => by
    have ih := spec_roIn.br_l k
    have ih_l0 := ih
    refine fun x1 x2 x7 x10 x11 x12 => ?_
    · refine LeO.of (S.spec_roIn.l0.eq _ _ _ _ _ _) ?_
      show LeO (spec_roIn.l0 (k + 1) x1 x2 x7 x10 x11 x12) _
      unfold spec_roIn.l0
      exact (LeO.dec (fun h0 => (LeO.tst fun h1 => (LeO.tst fun h2 => (LeO.rdI h1 h2 (LeO.bind (spec_roAge.f.br _ _) (fun y3 => (LeO.bind (spec_roRound.f.br _ _) (fun y4 => (LeO.ite' (fun h3 => (LeO.tst fun h4 => (LeO.cat1 h4 (ih_l0 _ _ _ _ _ _)))) (fun h3 => (ih_l0 _ _ _ _ _ _))))))))))) (fun h0 => LeO.refl _))
theorem spec_roIn.f.br (k : Nat) (x0 : List Int) (x1 : Int) (x2 : Int) : LeO (spec_roIn.f k x0 x1 x2) (S.spec_roIn.f x0 x1 x2) := by
  refine LeO.of (S.spec_roIn.f.eq _ _ _) ?_
  unfold spec_roIn.f
  have ih_l0 := (spec_roIn.br_l k)
  exact (ih_l0 _ _ _ _ _ _)
def spec_CalendarOf.l0 : Nat → List Int → Int → Int → List (List Int) → Int → Option ((List (List Int)) × Bool)
  | 0, _, _, _, _, _ => none
  | k + 1, x0, x2, x3, x10, x11 => if x11 ≤ x2 then ((spec_roIn.f k x0 x11 x3).bind fun y2 => (if (y2.length : Int) > 0 then (if [x11].length + y2.length < 17592186044416 then (if x10.length < 5864062014805 then (spec_CalendarOf.l0 k x0 x2 x3 (x10 ++ [([x11] ++ y2)]) (IntKind.i64.wrap (x11 + 1))) else (none)) else (none)) else (spec_CalendarOf.l0 k x0 x2 x3 x10 (IntKind.i64.wrap (x11 + 1))))) else (some (x10, true))
def spec_CalendarOf.f (k : Nat) (x0 : List Int) (x1 : Int) (x2 : Int) (x3 : Int) : Option ((List (List Int)) × Bool) := (spec_roAll.f k x0 x1 x2 x3).bind fun y1 => (if y1 = true then (spec_CalendarOf.l0 k x0 x2 x3 [] x1) else (some ([], false)))
theorem spec_CalendarOf.br_l : ∀ k, (∀ (x0 : List Int) (x2 : Int) (x3 : Int) (x10 : List (List Int)) (x11 : Int), LeO (spec_CalendarOf.l0 k x0 x2 x3 x10 x11) (S.spec_CalendarOf.l0 x0 x2 x3 x10 x11))
  | 0 => fun _ _ _ _ _ => LeO.none _
  | k + 1 => by
    have ih := spec_CalendarOf.br_l k
    have ih_l0 := ih
    refine fun x0 x2 x3 x10 x11 => ?_
    · refine LeO.of (S.spec_CalendarOf.l0.eq _ _ _ _ _) ?_
      show LeO (spec_CalendarOf.l0 (k + 1) x0 x2 x3 x10 x11) _
      unfold spec_CalendarOf.l0
      exact (LeO.dec (fun h0 => (LeO.bind (spec_roIn.f.br k _ _ _) (fun y2 => (LeO.dec (fun h1 => (LeO.tst fun h2 => (LeO.cat h2 (LeO.tst fun h3 => (LeO.cat1 h3 (ih_l0 _ _ _ _ _)))))) (fun h1 => (ih_l0 _ _ _ _ _)))))) (fun h0 => LeO.refl _))
theorem spec_CalendarOf.f.br (k : Nat) (x0 : List Int) (x1 : Int) (x2 : Int) (x3 : Int) : LeO (spec_CalendarOf.f k x0 x1 x2 x3) (S.spec_CalendarOf.f x0 x1 x2 x3) := by
  refine LeO.of (S.spec_CalendarOf.f.eq _ _ _ _) ?_
  unfold spec_CalendarOf.f
  have ih_l0 := (spec_CalendarOf.br_l k)
  exact (LeO.bind (spec_roAll.f.br k _ _ _ _) (fun y1 => (LeO.nob (fun h0 => (ih_l0 _ _ _ _ _)) (fun h0 => LeO.refl _))))
def impl_CountJubilees.l0 : Nat → Bool → Int → List (List Int) → Int → Int → Option (Int × Bool)
  | 0, _, _, _, _, _ => none
  | k + 1, x11, x12, x10, x24, x25 => if x25 < x24 then (if 0 ≤ x25 then (if x25 < (x10.length : Int) then (impl_CountJubilees.l0 k x11 (IntKind.i64.wrap (x12 + (IntKind.i64.wrap (((rde x10 x25).length : Int) - 1)))) x10 x24 (IntKind.i64.wrap (x25 + 1))) else (none)) else (none)) else (some (x12, x11))
def impl_CountJubilees.f (k : Nat) (x0 : List Int) (x1 : Int) (x2 : Int) (x3 : Int) : Option (Int × Bool) := (impl_calendar.f k x0 x1 x2 x3).bind fun y1 => (impl_CountJubilees.l0 k y1.2 0 y1.1 (y1.1.length : Int) 0)
theorem impl_CountJubilees.br_l : ∀ k, (∀ (x10 : List (List Int)) (x11 : Bool) (x12 : Int) (x24 : Int) (x25 : Int), LeO (impl_CountJubilees.l0 k x11 x12 x10 x24 x25) (S.impl_CountJubilees.l0 x10 x11 x12 x24 x25))
  | 0 => fun _ _ _ _ _ => LeO.none _
  | k + 1 => by
    have ih := impl_CountJubilees.br_l k
    have ih_l0 := ih
    refine fun x10 x11 x12 x24 x25 => ?_
    · refine LeO.of (S.impl_CountJubilees.l0.eq _ _ _ _ _) ?_
      show LeO (impl_CountJubilees.l0 (k + 1) x11 x12 x10 x24 x25) _
      unfold impl_CountJubilees.l0
      exact (LeO.dec (fun h0 => (LeO.tst fun h1 => (LeO.tst fun h2 => (LeO.rdI h1 h2 (ih_l0 _ _ _ _ _))))) (fun h0 => LeO.refl _))
theorem impl_CountJubilees.f.br (k : Nat) (x0 : List Int) (x1 : Int) (x2 : Int) (x3 : Int) : LeO (impl_CountJubilees.f k x0 x1 x2 x3) (S.impl_CountJubilees.f x0 x1 x2 x3) := by
  refine LeO.of (S.impl_CountJubilees.f.eq _ _ _ _) ?_
  unfold impl_CountJubilees.f
  have ih_l0 := (impl_CountJubilees.br_l k)
  exact (LeO.bind (impl_calendar.f.br k _ _ _ _) (fun y1 => (ih_l0 _ _ _ _ _)))
def spec_CountJubilees.l0 : Nat → List Int → Int → Int → Int → Int → Option (Int × Bool)
  | 0, _, _, _, _, _ => none
  | k + 1, x0, x2, x3, x10, x11 => if x11 ≤ x2 then ((spec_roIn.f k x0 x11 x3).bind fun y2 => (spec_CountJubilees.l0 k x0 x2 x3 (IntKind.i64.wrap (x10 + (y2.length : Int))) (IntKind.i64.wrap (x11 + 1)))) else (some (x10, true))
def spec_CountJubilees.f (k : Nat) (x0 : List Int) (x1 : Int) (x2 : Int) (x3 : Int) : Option (Int × Bool) := (spec_roAll.f k x0 x1 x2 x3).bind fun y1 => (if y1 = true then (spec_CountJubilees.l0 k x0 x2 x3 0 x1) else (some (0, false)))
theorem spec_CountJubilees.br_l : ∀ k, (∀ (x0 : List Int) (x2 : Int) (x3 : Int) (x10 : Int) (x11 : Int), LeO (spec_CountJubilees.l0 k x0 x2 x3 x10 x11) (S.spec_CountJubilees.l0 x0 x2 x3 x10 x11))
  | 0 => fun _ _ _ _ _ => LeO.none _
  | k + 1 => by
    have ih := spec_CountJubilees.br_l k
    have ih_l0 := ih
    refine fun x0 x2 x3 x10 x11 => ?_
    · refine LeO.of (S.spec_CountJubilees.l0.eq _ _ _ _ _) ?_
      show LeO (spec_CountJubilees.l0 (k + 1) x0 x2 x3 x10 x11) _
      unfold spec_CountJubilees.l0
      exact (LeO.dec (fun h0 => (LeO.bind (spec_roIn.f.br k _ _ _) (fun y2 => (ih_l0 _ _ _ _ _)))) (fun h0 => LeO.refl _))
theorem spec_CountJubilees.f.br (k : Nat) (x0 : List Int) (x1 : Int) (x2 : Int) (x3 : Int) : LeO (spec_CountJubilees.f k x0 x1 x2 x3) (S.spec_CountJubilees.f x0 x1 x2 x3) := by
  refine LeO.of (S.spec_CountJubilees.f.eq _ _ _ _) ?_
  unfold spec_CountJubilees.f
  have ih_l0 := (spec_CountJubilees.br_l k)
  exact (LeO.bind (spec_roAll.f.br k _ _ _ _) (fun y1 => (LeO.nob (fun h0 => (ih_l0 _ _ _ _ _)) (fun h0 => LeO.refl _))))
def impl_MostJubilees.l0 : Nat → Int → Int → List (List Int) → Int → Int → Option (Int × Int × Bool)
  | 0, _, _, _, _, _ => none
  | k + 1, x13, x14, x11, x29, x30 => if x30 < x29 then (if 0 ≤ x30 then (if x30 < (x11.length : Int) then (if (IntKind.i64.wrap (((rde x11 x30).length : Int) - 1)) > x14 then (if 0 < ((rde x11 x30).length : Int) then (impl_MostJubilees.l0 k (rde (rde x11 x30) 0) (IntKind.i64.wrap (((rde x11 x30).length : Int) - 1)) x11 x29 (IntKind.i64.wrap (x30 + 1))) else (none)) else (impl_MostJubilees.l0 k x13 x14 x11 x29 (IntKind.i64.wrap (x30 + 1)))) else (none)) else (none)) else (some (x13, x14, true))
def impl_MostJubilees.f (k : Nat) (x0 : List Int) (x1 : Int) (x2 : Int) (x3 : Int) : Option (Int × Int × Bool) := (impl_calendar.f k x0 x1 x2 x3).bind fun y1 => (if y1.2 = true then (impl_MostJubilees.l0 k x1 0 y1.1 (y1.1.length : Int) 0) else (some (0, 0, false)))
theorem impl_MostJubilees.br_l : ∀ k, (∀ (x11 : List (List Int)) (x13 : Int) (x14 : Int) (x29 : Int) (x30 : Int), LeO (impl_MostJubilees.l0 k x13 x14 x11 x29 x30) (S.impl_MostJubilees.l0 x11 x13 x14 x29 x30))
  | 0 => fun _ _ _ _ _ => LeO.none _
  | k + 1 => by
    have ih := impl_MostJubilees.br_l k
    have ih_l0 := ih
    refine fun x11 x13 x14 x29 x30 => ?_
    · refine LeO.of (S.impl_MostJubilees.l0.eq _ _ _ _ _) ?_
      show LeO (impl_MostJubilees.l0 (k + 1) x13 x14 x11 x29 x30) _
      unfold impl_MostJubilees.l0
      exact (LeO.dec (fun h0 => (LeO.tst fun h1 => (LeO.tst fun h2 => (LeO.rdI h1 h2 (LeO.dec (fun h3 => (LeO.tst fun h5 => (LeO.rdI (by decide) h5 (ih_l0 _ _ _ _ _)))) (fun h3 => (ih_l0 _ _ _ _ _))))))) (fun h0 => LeO.refl _))
theorem impl_MostJubilees.f.br (k : Nat) (x0 : List Int) (x1 : Int) (x2 : Int) (x3 : Int) : LeO (impl_MostJubilees.f k x0 x1 x2 x3) (S.impl_MostJubilees.f x0 x1 x2 x3) := by
  refine LeO.of (S.impl_MostJubilees.f.eq _ _ _ _) ?_
  unfold impl_MostJubilees.f
  have ih_l0 := (impl_MostJubilees.br_l k)
  exact (LeO.bind (impl_calendar.f.br k _ _ _ _) (fun y1 => (LeO.nob (fun h0 => (ih_l0 _ _ _ _ _)) (fun h0 => LeO.refl _))))
def spec_MostJubilees.l0 : Nat → List Int → Int → Int → Int → Int → Int → Option (Int × Int × Bool)
  | 0, _, _, _, _, _, _ => none
  | k + 1, x0, x2, x3, x11, x12, x13 => if x13 ≤ x2 then ((spec_roIn.f k x0 x13 x3).bind fun y2 => (if (y2.length : Int) > x12 then (spec_MostJubilees.l0 k x0 x2 x3 x13 (y2.length : Int) (IntKind.i64.wrap (x13 + 1))) else (spec_MostJubilees.l0 k x0 x2 x3 x11 x12 (IntKind.i64.wrap (x13 + 1))))) else (some (x11, x12, true))
def spec_MostJubilees.f (k : Nat) (x0 : List Int) (x1 : Int) (x2 : Int) (x3 : Int) : Option (Int × Int × Bool) := (spec_roAll.f k x0 x1 x2 x3).bind fun y1 => (if y1 = true then (spec_MostJubilees.l0 k x0 x2 x3 x1 (-1) x1) else (some (0, 0, false)))
theorem spec_MostJubilees.br_l : ∀ k, (∀ (x0 : List Int) (x2 : Int) (x3 : Int) (x11 : Int) (x12 : Int) (x13 : Int), LeO (spec_MostJubilees.l0 k x0 x2 x3 x11 x12 x13) (S.spec_MostJubilees.l0 x0 x2 x3 x11 x12 x13))
  | 0 => fun _ _ _ _ _ _ => LeO.none _
  | k + 1 => by
    have ih := spec_MostJubilees.br_l k
    have ih_l0 := ih
    refine fun x0 x2 x3 x11 x12 x13 => ?_
    · refine LeO.of (S.spec_MostJubilees.l0.eq _ _ _ _ _ _) ?_
      show LeO (spec_MostJubilees.l0 (k + 1) x0 x2 x3 x11 x12 x13) _
      unfold spec_MostJubilees.l0
      exact (LeO.dec (fun h0 => (LeO.bind (spec_roIn.f.br k _ _ _) (fun y2 => (LeO.dec (fun h1 => (ih_l0 _ _ _ _ _ _)) (fun h1 => (ih_l0 _ _ _ _ _ _)))))) (fun h0 => LeO.refl _))
theorem spec_MostJubilees.f.br (k : Nat) (x0 : List Int) (x1 : Int) (x2 : Int) (x3 : Int) : LeO (spec_MostJubilees.f k x0 x1 x2 x3) (S.spec_MostJubilees.f x0 x1 x2 x3) := by
  refine LeO.of (S.spec_MostJubilees.f.eq _ _ _ _) ?_
  unfold spec_MostJubilees.f
  have ih_l0 := (spec_MostJubilees.br_l k)
  exact (LeO.bind (spec_roAll.f.br k _ _ _ _) (fun y1 => (LeO.nob (fun h0 => (ih_l0 _ _ _ _ _ _)) (fun h0 => LeO.refl _))))
def impl_LongestQuiet.l0 : Nat → Int → Int → Int → List (List Int) → Int → Int → Option (Int × Int × Bool)
  | 0, _, _, _, _, _, _ => none
  | k + 1, x13, x14, x15, x34, x35, x36 => if x36 < x35 then (if 0 ≤ x36 then (if x36 < (x34.length : Int) then (if 0 < ((rde x34 x36).length : Int) then (if (IntKind.i64.wrap ((rde (rde x34 x36) 0) - x15)) > x14 then (impl_LongestQuiet.l0 k x15 (IntKind.i64.wrap ((rde (rde x34 x36) 0) - x15)) (IntKind.i64.wrap ((rde (rde x34 x36) 0) + 1)) x34 x35 (IntKind.i64.wrap (x36 + 1))) else (impl_LongestQuiet.l0 k x13 x14 (IntKind.i64.wrap ((rde (rde x34 x36) 0) + 1)) x34 x35 (IntKind.i64.wrap (x36 + 1)))) else (none)) else (none)) else (none)) else (some (x13, x14, (decide (x14 > 0))))
def impl_LongestQuiet.f (k : Nat) (x0 : List Int) (x1 : Int) (x2 : Int) (x3 : Int) : Option (Int × Int × Bool) := (impl_calendar.f k x0 x1 x2 x3).bind fun y1 => (if y1.2 = true then (if y1.1.length < 5864062014805 then (impl_LongestQuiet.l0 k 0 0 x1 (y1.1 ++ [[(IntKind.i64.wrap (x2 + 1))]]) ((y1.1 ++ [[(IntKind.i64.wrap (x2 + 1))]]).length : Int) 0) else (none)) else (some (0, 0, false)))
theorem impl_LongestQuiet.br_l : ∀ k, (∀ (x13 : Int) (x14 : Int) (x15 : Int) (x34 : List (List Int)) (x35 : Int) (x36 : Int), LeO (impl_LongestQuiet.l0 k x13 x14 x15 x34 x35 x36) (S.impl_LongestQuiet.l0 x13 x14 x15 x34 x35 x36))
  | 0 => fun _ _ _ _ _ _ => LeO.none _
  | k + 1 => by
    have ih := impl_LongestQuiet.br_l k
    have ih_l0 := ih
    refine fun x13 x14 x15 x34 x35 x36 => ?_
    · refine LeO.of (S.impl_LongestQuiet.l0.eq _ _ _ _ _ _) ?_
      show LeO (impl_LongestQuiet.l0 (k + 1) x13 x14 x15 x34 x35 x36) _
      unfold impl_LongestQuiet.l0
      exact (LeO.dec (fun h0 => (LeO.tst fun h1 => (LeO.tst fun h2 => (LeO.rdI h1 h2 (LeO.tst fun h4 => (LeO.rdI (by decide) h4 (LeO.dec (fun h5 => (LeO.rdI (by decide) h4 (LeO.rdI (by decide) h4 (ih_l0 _ _ _ _ _ _)))) (fun h5 => (LeO.rdI (by decide) h4 (ih_l0 _ _ _ _ _ _)))))))))) (fun h0 => LeO.refl _))
theorem impl_LongestQuiet.f.br (k : Nat) (x0 : List Int) (x1 : Int) (x2 : Int) (x3 : Int) : LeO (impl_LongestQuiet.f k x0 x1 x2 x3) (S.impl_LongestQuiet.f x0 x1 x2 x3) := by
  refine LeO.of (S.impl_LongestQuiet.f.eq _ _ _ _) ?_
  unfold impl_LongestQuiet.f
  have ih_l0 := (impl_LongestQuiet.br_l k)
  exact (LeO.bind (impl_calendar.f.br k _ _ _ _) (fun y1 => (LeO.nob (fun h0 => (LeO.tst fun h1 => (LeO.cat1 h1 (ih_l0 _ _ _ _ _ _)))) (fun h0 => LeO.refl _))))
def spec_LongestQuiet.l0 : Nat → List Int → Int → Int → Int → Int → Int → Int → Option (Int × Int × Bool)
  | 0, _, _, _, _, _, _, _ => none
  | k + 1, x0, x2, x3, x11, x12, x13, x14 => if x14 ≤ x2 then ((spec_roIn.f k x0 x14 x3).bind fun y3 => (if (y3.length : Int) > 0 then (if 0 > x12 then (spec_LongestQuiet.l0 k x0 x2 x3 (IntKind.i64.wrap ((IntKind.i64.wrap (x14 - 0)) + 1)) 0 0 (IntKind.i64.wrap (x14 + 1))) else (spec_LongestQuiet.l0 k x0 x2 x3 x11 x12 0 (IntKind.i64.wrap (x14 + 1)))) else (if (IntKind.i64.wrap (x13 + 1)) > x12 then (spec_LongestQuiet.l0 k x0 x2 x3 (IntKind.i64.wrap ((IntKind.i64.wrap (x14 - (IntKind.i64.wrap (x13 + 1)))) + 1)) (IntKind.i64.wrap (x13 + 1)) (IntKind.i64.wrap (x13 + 1)) (IntKind.i64.wrap (x14 + 1))) else (spec_LongestQuiet.l0 k x0 x2 x3 x11 x12 (IntKind.i64.wrap (x13 + 1)) (IntKind.i64.wrap (x14 + 1)))))) else (if x12 = 0 then (some (0, 0, false)) else (some (x11, x12, true)))
def spec_LongestQuiet.f (k : Nat) (x0 : List Int) (x1 : Int) (x2 : Int) (x3 : Int) : Option (Int × Int × Bool) := (spec_roAll.f k x0 x1 x2 x3).bind fun y1 => (if y1 = true then (spec_LongestQuiet.l0 k x0 x2 x3 0 0 0 x1) else (some (0, 0, false)))
theorem spec_LongestQuiet.br_l : ∀ k, (∀ (x0 : List Int) (x2 : Int) (x3 : Int) (x11 : Int) (x12 : Int) (x13 : Int) (x14 : Int), LeO (spec_LongestQuiet.l0 k x0 x2 x3 x11 x12 x13 x14) (S.spec_LongestQuiet.l0 x0 x2 x3 x11 x12 x13 x14))
  | 0 => fun _ _ _ _ _ _ _ => LeO.none _
  | k + 1 => by
    have ih := spec_LongestQuiet.br_l k
    have ih_l0 := ih
    refine fun x0 x2 x3 x11 x12 x13 x14 => ?_
    · refine LeO.of (S.spec_LongestQuiet.l0.eq _ _ _ _ _ _ _) ?_
      show LeO (spec_LongestQuiet.l0 (k + 1) x0 x2 x3 x11 x12 x13 x14) _
      unfold spec_LongestQuiet.l0
      exact (LeO.dec (fun h0 => (LeO.bind (spec_roIn.f.br k _ _ _) (fun y3 => (LeO.dec (fun h1 => (LeO.dec (fun h2 => (ih_l0 _ _ _ _ _ _ _)) (fun h2 => (ih_l0 _ _ _ _ _ _ _)))) (fun h1 => (LeO.dec (fun h2 => (ih_l0 _ _ _ _ _ _ _)) (fun h2 => (ih_l0 _ _ _ _ _ _ _)))))))) (fun h0 => (LeO.beq (fun h1 => LeO.refl _) (fun h1 => LeO.refl _))))
theorem spec_LongestQuiet.f.br (k : Nat) (x0 : List Int) (x1 : Int) (x2 : Int) (x3 : Int) : LeO (spec_LongestQuiet.f k x0 x1 x2 x3) (S.spec_LongestQuiet.f x0 x1 x2 x3) := by
  refine LeO.of (S.spec_LongestQuiet.f.eq _ _ _ _) ?_
  unfold spec_LongestQuiet.f
  have ih_l0 := (spec_LongestQuiet.br_l k)
  exact (LeO.bind (spec_roAll.f.br k _ _ _ _) (fun y1 => (LeO.nob (fun h0 => (ih_l0 _ _ _ _ _ _ _)) (fun h0 => LeO.refl _))))
def laws_qSame.l0 : Nat → List Int → List Int → Int → Int → Option (Bool)
  | 0, _, _, _, _ => none
  | k + 1, x0, x1, x12, x13 => if x13 < x12 then (if 0 ≤ x13 then (if x13 < (x0.length : Int) then (if x13 < (x1.length : Int) then (if (rde x0 x13) = (rde x1 x13) then (laws_qSame.l0 k x0 x1 x12 (IntKind.i64.wrap (x13 + 1))) else (some false)) else (none)) else (none)) else (none)) else (some true)
def laws_qSame.f (k : Nat) (x0 : List Int) (x1 : List Int) : Option (Bool) := if (x0.length : Int) = (x1.length : Int) then (laws_qSame.l0 k x0 x1 (x0.length : Int) 0) else (some false)
theorem laws_qSame.br_l : ∀ k, (∀ (x0 : List Int) (x1 : List Int) (x12 : Int) (x13 : Int), LeO (laws_qSame.l0 k x0 x1 x12 x13) (S.laws_qSame.l0 x0 x1 x12 x13))
  | 0 => fun _ _ _ _ => LeO.none _
  | k + 1 => by
    have ih := laws_qSame.br_l k
    have ih_l0 := ih
    refine fun x0 x1 x12 x13 => ?_
    · refine LeO.of (S.laws_qSame.l0.eq _ _ _ _) ?_
      show LeO (laws_qSame.l0 (k + 1) x0 x1 x12 x13) _
      unfold laws_qSame.l0
      exact (LeO.dec (fun h0 => (LeO.tst fun h1 => (LeO.tst fun h2 => (LeO.rdI h1 h2 (LeO.tst fun h3 => (LeO.rdI h1 h3 (LeO.bne (fun h4 => (ih_l0 _ _ _ _)) (fun h4 => LeO.refl _)))))))) (fun h0 => LeO.refl _))
theorem laws_qSame.f.br (k : Nat) (x0 : List Int) (x1 : List Int) : LeO (laws_qSame.f k x0 x1) (S.laws_qSame.f x0 x1) := by
  refine LeO.of (S.laws_qSame.f.eq _ _) ?_
  unfold laws_qSame.f
  have ih_l0 := (laws_qSame.br_l k)
  exact (LeO.bne (fun h0 => (ih_l0 _ _ _ _)) (fun h0 => LeO.refl _))
def laws_qRows.l0 : Nat → List (List Int) → List (List Int) → Int → Int → Option (Bool)
  | 0, _, _, _, _ => none
  | k + 1, x0, x1, x12, x13 => if x13 < x12 then (if 0 ≤ x13 then (if x13 < (x0.length : Int) then (if x13 < (x1.length : Int) then ((laws_qSame.f k (rde x0 x13) (rde x1 x13)).bind fun y4 => (if y4 = true then (laws_qRows.l0 k x0 x1 x12 (IntKind.i64.wrap (x13 + 1))) else (some false))) else (none)) else (none)) else (none)) else (some true)
def laws_qRows.f (k : Nat) (x0 : List (List Int)) (x1 : List (List Int)) : Option (Bool) := if (x0.length : Int) = (x1.length : Int) then (laws_qRows.l0 k x0 x1 (x0.length : Int) 0) else (some false)
theorem laws_qRows.br_l : ∀ k, (∀ (x0 : List (List Int)) (x1 : List (List Int)) (x12 : Int) (x13 : Int), LeO (laws_qRows.l0 k x0 x1 x12 x13) (S.laws_qRows.l0 x0 x1 x12 x13))
  | 0 => fun _ _ _ _ => LeO.none _
  | k + 1 => by
    have ih := laws_qRows.br_l k
    have ih_l0 := ih
    refine fun x0 x1 x12 x13 => ?_
    · refine LeO.of (S.laws_qRows.l0.eq _ _ _ _) ?_
      show LeO (laws_qRows.l0 (k + 1) x0 x1 x12 x13) _
      unfold laws_qRows.l0
      exact (LeO.dec (fun h0 => (LeO.tst fun h1 => (LeO.tst fun h2 => (LeO.rdI h1 h2 (LeO.tst fun h3 => (LeO.rdI h1 h3 (LeO.bind (laws_qSame.f.br k _ _) (fun y4 => (LeO.nob (fun h4 => (ih_l0 _ _ _ _)) (fun h4 => LeO.refl _)))))))))) (fun h0 => LeO.refl _))
theorem laws_qRows.f.br (k : Nat) (x0 : List (List Int)) (x1 : List (List Int)) : LeO (laws_qRows.f k x0 x1) (S.laws_qRows.f x0 x1) := by
  refine LeO.of (S.laws_qRows.f.eq _ _) ?_
  unfold laws_qRows.f
  have ih_l0 := (laws_qRows.br_l k)
  exact (LeO.bne (fun h0 => (ih_l0 _ _ _ _)) (fun h0 => LeO.refl _))
def spec_AreBirths.f (k : Nat) (x0 : List Int) : Option (Bool) := (spec_roBorn.f k x0).bind fun y1 => (some y1)
theorem spec_AreBirths.f.br (k : Nat) (x0 : List Int) : LeO (spec_AreBirths.f k x0) (S.spec_AreBirths.f x0) := by
  refine LeO.of (S.spec_AreBirths.f.eq _) ?_
  unfold spec_AreBirths.f
  exact (LeO.bind (spec_roBorn.f.br k _) (fun y1 => LeO.refl _))
def impl_JubileesIn.f (k : Nat) (x0 : List Int) (x1 : Int) (x2 : Int) : Option ((List Int) × Bool) := (impl_AreBirths.f x0).bind fun y1 => (if y1 = true then ((impl_isYear.f x1).bind fun y2 => (if y2 = true then ((impl_isEvery.f x2).bind fun y4 => (if y4 = true then ((impl_jubilees.f k x0 x1 x2).bind fun y6 => (some (y6, true))) else (some ([], false)))) else (some ([], false)))) else (some ([], false)))
theorem impl_JubileesIn.f.br (k : Nat) (x0 : List Int) (x1 : Int) (x2 : Int) : LeO (impl_JubileesIn.f k x0 x1 x2) (S.impl_JubileesIn.f x0 x1 x2) := by
  refine LeO.of (S.impl_JubileesIn.f.eq _ _ _) ?_
  unfold impl_JubileesIn.f
  exact (LeO.bind (impl_AreBirths.f.br _) (fun y1 => (LeO.nob (fun h0 => (LeO.bind (impl_isYear.f.br _) (fun y2 => (LeO.nob (fun h1 => (LeO.bind (impl_isEvery.f.br _) (fun y4 => (LeO.nob (fun h2 => (LeO.bind (impl_jubilees.f.br k _ _ _) (fun y6 => LeO.refl _))) (fun h2 => LeO.refl _))))) (fun h1 => LeO.refl _))))) (fun h0 => LeO.refl _))))
def laws_qRises.l0 : Nat → List Int → Int → Option (Bool)
  | 0, _, _ => none
  | k + 1, x0, x3 => if x3 < (x0.length : Int) then (if 0 ≤ (IntKind.i64.wrap (x3 - 1)) then (if (IntKind.i64.wrap (x3 - 1)) < (x0.length : Int) then (if 0 ≤ x3 then (if (rde x0 (IntKind.i64.wrap (x3 - 1))) ≥ (rde x0 x3) then (some false) else (laws_qRises.l0 k x0 (IntKind.i64.wrap (x3 + 1)))) else (none)) else (none)) else (none)) else (some true)
def laws_qRises.f (k : Nat) (x0 : List Int) : Option (Bool) := laws_qRises.l0 k x0 1
theorem laws_qRises.br_l : ∀ k, (∀ (x0 : List Int) (x3 : Int), LeO (laws_qRises.l0 k x0 x3) (S.laws_qRises.l0 x0 x3))
  | 0 => fun _ _ => LeO.none _
  | k + 1 => by
    have ih := laws_qRises.br_l k
    have ih_l0 := ih
    refine fun x0 x3 => ?_
    · refine LeO.of (S.laws_qRises.l0.eq _ _) ?_
      show LeO (laws_qRises.l0 (k + 1) x0 x3) _
      unfold laws_qRises.l0
      exact (LeO.dec (fun h0 => (LeO.tst fun h1 => (LeO.tst fun h2 => (LeO.rdI h1 h2 (LeO.tst fun h3 => (LeO.rdI h3 h0 (LeO.dec (fun h4 => LeO.refl _) (fun h4 => (ih_l0 _ _))))))))) (fun h0 => LeO.refl _))
theorem laws_qRises.f.br (k : Nat) (x0 : List Int) : LeO (laws_qRises.f k x0) (S.laws_qRises.f x0) := by
  refine LeO.of (S.laws_qRises.f.eq _) ?_
  unfold laws_qRises.f
  have ih_l0 := (laws_qRises.br_l k)
  exact (ih_l0 _ _)
def spec_DrawJubileesIn.f (k : Nat) (x0 : List Int) : Option ((List Int) × Int × Int) := (spec_l1Cur_born.f k x0 0 0).bind fun y1 => ((spec_l1Cur_year.f y1.2.1 y1.2.2.1 y1.2.2.2).bind fun y2 => ((spec_l1Cur_jubilee.f y2.2.1 y2.2.2.1 y2.2.2.2).bind fun y3 => (some (y1.1, y2.1, y3.1))))
theorem spec_DrawJubileesIn.f.br (k : Nat) (x0 : List Int) : LeO (spec_DrawJubileesIn.f k x0) (S.spec_DrawJubileesIn.f x0) := by
  refine LeO.of (S.spec_DrawJubileesIn.f.eq _) ?_
  unfold spec_DrawJubileesIn.f
  exact (LeO.bind (spec_l1Cur_born.f.br k _ _ _) (fun y1 => (LeO.bind (spec_l1Cur_year.f.br _ _ _) (fun y2 => (LeO.bind (spec_l1Cur_jubilee.f.br _ _ _) (fun y3 => LeO.refl _))))))
def spec_DrawNextJubilee.f (k : Nat) (x0 : List Int) : Option ((List Int) × Int × Int) := (spec_DrawJubileesIn.f k x0).bind fun y1 => (some (y1.1, y1.2.1, y1.2.2))
theorem spec_DrawNextJubilee.f.br (k : Nat) (x0 : List Int) : LeO (spec_DrawNextJubilee.f k x0) (S.spec_DrawNextJubilee.f x0) := by
  refine LeO.of (S.spec_DrawNextJubilee.f.eq _) ?_
  unfold spec_DrawNextJubilee.f
  exact (LeO.bind (spec_DrawJubileesIn.f.br k _) (fun y1 => LeO.refl _))
mutual
def impl_NextJubilee.j0 : Nat → List Int → Int → Int → Bool → Option (Int × Bool)
  | 0, _, _, _, _ => none
  | k + 1, x0, x1, x2, x21 => if x21 = true then (some (0, false)) else (impl_NextJubilee.l0 k x0 x2 (IntKind.i64.wrap (x1 + 1)))
def impl_NextJubilee.l0 : Nat → List Int → Int → Int → Option (Int × Bool)
  | 0, _, _, _ => none
  | k + 1, x0, x2, x8 => if x8 ≤ 3000 then ((impl_jubilees.f k x0 x8 x2).bind fun y2 => (if (y2.length : Int) > 0 then (some (x8, true)) else (impl_NextJubilee.l0 k x0 x2 (IntKind.i64.wrap (x8 + 1))))) else (some (0, false))
end
def impl_NextJubilee.f (k : Nat) (x0 : List Int) (x1 : Int) (x2 : Int) : Option (Int × Bool) := (impl_AreBirths.f x0).bind fun y1 => (if y1 = true then ((impl_isYear.f x1).bind fun y6 => (if y6 = true then ((impl_isEvery.f x2).bind fun y8 => (impl_NextJubilee.j0 k x0 x1 x2 (!y8))) else (impl_NextJubilee.j0 k x0 x1 x2 true))) else (impl_NextJubilee.j0 k x0 x1 x2 true))
theorem impl_NextJubilee.br_l : ∀ k, (∀ (x0 : List Int) (x1 : Int) (x2 : Int) (x21 : Bool), LeO (impl_NextJubilee.j0 k x0 x1 x2 x21) (S.impl_NextJubilee.j0 x0 x1 x2 x21)) ∧ (∀ (x0 : List Int) (x2 : Int) (x8 : Int), LeO (impl_NextJubilee.l0 k x0 x2 x8) (S.impl_NextJubilee.l0 x0 x2 x8))
  | 0 => ⟨fun _ _ _ _ => LeO.none _, fun _ _ _ => LeO.none _⟩
  | k + 1 => by
    have ih := impl_NextJubilee.br_l k
    obtain ⟨ih_j0, ih_l0⟩ := ih
    refine ⟨fun x0 x1 x2 x21 => ?_, fun x0 x2 x8 => ?_⟩
    · refine LeO.of (S.impl_NextJubilee.j0.eq _ _ _ _) ?_
      unfold impl_NextJubilee.j0
      exact (LeO.ite' (fun h0 => LeO.refl _) (fun h0 => (ih_l0 _ _ _)))
    · refine LeO.of (S.impl_NextJubilee.l0.eq _ _ _) ?_
      unfold impl_NextJubilee.l0
      exact (LeO.dec (fun h0 => (LeO.bind (impl_jubilees.f.br k _ _ _) (fun y2 => (LeO.dec (fun h1 => LeO.refl _) (fun h1 => (ih_l0 _ _ _)))))) (fun h0 => LeO.refl _))
theorem impl_NextJubilee.f.br (k : Nat) (x0 : List Int) (x1 : Int) (x2 : Int) : LeO (impl_NextJubilee.f k x0 x1 x2) (S.impl_NextJubilee.f x0 x1 x2) := by
  refine LeO.of (S.impl_NextJubilee.f.eq _ _ _) ?_
  unfold impl_NextJubilee.f
  have ih_j0 := (impl_NextJubilee.br_l k).1
  exact (LeO.bind (impl_AreBirths.f.br _) (fun y1 => (LeO.nob (fun h0 => (LeO.bind (impl_isYear.f.br _) (fun y6 => (LeO.nob (fun h1 => (LeO.bind (impl_isEvery.f.br _) (fun y8 => (ih_j0 _ _ _ _)))) (fun h1 => (ih_j0 _ _ _ _)))))) (fun h0 => (ih_j0 _ _ _ _)))))
def spec_roYear.f (k : Nat) (x0 : List Int) (x1 : Int) : Option (Bool) := (spec_roBorn.f k x0).bind fun y1 => (if y1 = true then ((spec_l1In.f x1 0 3000).bind fun y2 => (some y2)) else (some false))
theorem spec_roYear.f.br (k : Nat) (x0 : List Int) (x1 : Int) : LeO (spec_roYear.f k x0 x1) (S.spec_roYear.f x0 x1) := by
  refine LeO.of (S.spec_roYear.f.eq _ _) ?_
  unfold spec_roYear.f
  exact (LeO.bind (spec_roBorn.f.br k _) (fun y1 => (LeO.ite' (fun h0 => (LeO.bind (spec_l1In.f.br _ _ _) (fun y2 => LeO.refl _))) (fun h0 => LeO.refl _))))
mutual
def spec_NextJubilee.j0 : Nat → List Int → Int → Int → Bool → Option (Int × Bool)
  | 0, _, _, _, _ => none
  | k + 1, x0, x1, x2, x17 => if x17 = true then (some (0, false)) else (spec_NextJubilee.l0 k x0 x2 (IntKind.i64.wrap (x1 + 1)))
def spec_NextJubilee.l0 : Nat → List Int → Int → Int → Option (Int × Bool)
  | 0, _, _, _ => none
  | k + 1, x0, x2, x8 => if x8 ≤ 3000 then ((spec_roIn.f k x0 x8 x2).bind fun y2 => (if (y2.length : Int) > 0 then (some (x8, true)) else (spec_NextJubilee.l0 k x0 x2 (IntKind.i64.wrap (x8 + 1))))) else (some (0, false))
end
def spec_NextJubilee.f (k : Nat) (x0 : List Int) (x1 : Int) (x2 : Int) : Option (Int × Bool) := (spec_roYear.f k x0 x1).bind fun y1 => (if y1 = true then ((spec_roEvery.f x2).bind fun y6 => (spec_NextJubilee.j0 k x0 x1 x2 (!y6))) else (spec_NextJubilee.j0 k x0 x1 x2 true))
theorem spec_NextJubilee.br_l : ∀ k, (∀ (x0 : List Int) (x1 : Int) (x2 : Int) (x17 : Bool), LeO (spec_NextJubilee.j0 k x0 x1 x2 x17) (S.spec_NextJubilee.j0 x0 x1 x2 x17)) ∧ (∀ (x0 : List Int) (x2 : Int) (x8 : Int), LeO (spec_NextJubilee.l0 k x0 x2 x8) (S.spec_NextJubilee.l0 x0 x2 x8))
  | 0 => ⟨fun _ _ _ _ => LeO.none _, fun _ _ _ => LeO.none _⟩
  | k + 1 => by
    have ih := spec_NextJubilee.br_l k
    obtain ⟨ih_j0, ih_l0⟩ := ih
    refine ⟨fun x0 x1 x2 x17 => ?_, fun x0 x2 x8 => ?_⟩
    · refine LeO.of (S.spec_NextJubilee.j0.eq _ _ _ _) ?_
      unfold spec_NextJubilee.j0
      exact (LeO.ite' (fun h0 => LeO.refl _) (fun h0 => (ih_l0 _ _ _)))
    · refine LeO.of (S.spec_NextJubilee.l0.eq _ _ _) ?_
      unfold spec_NextJubilee.l0
      exact (LeO.dec (fun h0 => (LeO.bind (spec_roIn.f.br k _ _ _) (fun y2 => (LeO.dec (fun h1 => LeO.refl _) (fun h1 => (ih_l0 _ _ _)))))) (fun h0 => LeO.refl _))
theorem spec_NextJubilee.f.br (k : Nat) (x0 : List Int) (x1 : Int) (x2 : Int) : LeO (spec_NextJubilee.f k x0 x1 x2) (S.spec_NextJubilee.f x0 x1 x2) := by
  refine LeO.of (S.spec_NextJubilee.f.eq _ _ _) ?_
  unfold spec_NextJubilee.f
  have ih_j0 := (spec_NextJubilee.br_l k).1
  exact (LeO.bind (spec_roYear.f.br k _ _) (fun y1 => (LeO.nob (fun h0 => (LeO.bind (spec_roEvery.f.br _) (fun y6 => (ih_j0 _ _ _ _)))) (fun h0 => (ih_j0 _ _ _ _)))))
def spec_JubileesIn.f (k : Nat) (x0 : List Int) (x1 : Int) (x2 : Int) : Option ((List Int) × Bool) := (spec_roYear.f k x0 x1).bind fun y1 => (if y1 = true then ((spec_roEvery.f x2).bind fun y2 => (if y2 = true then ((spec_roIn.f k x0 x1 x2).bind fun y4 => (some (y4, true))) else (some ([], false)))) else (some ([], false)))
theorem spec_JubileesIn.f.br (k : Nat) (x0 : List Int) (x1 : Int) (x2 : Int) : LeO (spec_JubileesIn.f k x0 x1 x2) (S.spec_JubileesIn.f x0 x1 x2) := by
  refine LeO.of (S.spec_JubileesIn.f.eq _ _ _) ?_
  unfold spec_JubileesIn.f
  exact (LeO.bind (spec_roYear.f.br k _ _) (fun y1 => (LeO.nob (fun h0 => (LeO.bind (spec_roEvery.f.br _) (fun y2 => (LeO.nob (fun h1 => (LeO.bind (spec_roIn.f.br k _ _ _) (fun y4 => LeO.refl _))) (fun h1 => LeO.refl _))))) (fun h0 => LeO.refl _))))
mutual
def impl_OldestRound.j0 : Nat → List Int → Int → List Int → Bool → Option (Int × Int × Bool)
  | 0, _, _, _, _ => none
  | k + 1, x0, x1, x9, x27 => if x27 = true then (some (0, 0, false)) else (if 0 < (x9.length : Int) then (impl_OldestRound.l0 k x0 x1 (rde x9 0) x9 (x9.length : Int) 0) else (none))
def impl_OldestRound.l0 : Nat → List Int → Int → Int → List Int → Int → Int → Option (Int × Int × Bool)
  | 0, _, _, _, _, _, _ => none
  | k + 1, x0, x1, x11, x9, x32, x33 => if x33 < x32 then (if 0 ≤ x33 then (if x33 < (x9.length : Int) then (if 0 ≤ (rde x9 x33) then (if (rde x9 x33) < (x0.length : Int) then (if 0 ≤ x11 then (if x11 < (x0.length : Int) then (if (rde x0 (rde x9 x33)) < (rde x0 x11) then (impl_OldestRound.l0 k x0 x1 (rde x9 x33) x9 x32 (IntKind.i64.wrap (x33 + 1))) else (impl_OldestRound.l0 k x0 x1 x11 x9 x32 (IntKind.i64.wrap (x33 + 1)))) else (none)) else (none)) else (none)) else (none)) else (none)) else (none)) else (if 0 ≤ x11 then (if x11 < (x0.length : Int) then (some (x11, (IntKind.i64.wrap (x1 - (rde x0 x11))), true)) else (none)) else (none))
end
def impl_OldestRound.f (k : Nat) (x0 : List Int) (x1 : Int) (x2 : Int) : Option (Int × Int × Bool) := (impl_JubileesIn.f k x0 x1 x2).bind fun y1 => (if y1.2 = true then (impl_OldestRound.j0 k x0 x1 y1.1 ((y1.1.length : Int) == 0)) else (impl_OldestRound.j0 k x0 x1 y1.1 true))
theorem impl_OldestRound.br_l : ∀ k, (∀ (x0 : List Int) (x1 : Int) (x9 : List Int) (x27 : Bool), LeO (impl_OldestRound.j0 k x0 x1 x9 x27) (S.impl_OldestRound.j0 x0 x1 x9 x27)) ∧ (∀ (x0 : List Int) (x1 : Int) (x9 : List Int) (x11 : Int) (x32 : Int) (x33 : Int), LeO (impl_OldestRound.l0 k x0 x1 x11 x9 x32 x33) (S.impl_OldestRound.l0 x0 x1 x9 x11 x32 x33))
  | 0 => ⟨fun _ _ _ _ => LeO.none _, fun _ _ _ _ _ _ => LeO.none _⟩
  | k + 1 => by
    have ih := impl_OldestRound.br_l k
    obtain ⟨ih_j0, ih_l0⟩ := ih
    refine ⟨fun x0 x1 x9 x27 => ?_, fun x0 x1 x9 x11 x32 x33 => ?_⟩
    · refine LeO.of (S.impl_OldestRound.j0.eq _ _ _ _) ?_
      unfold impl_OldestRound.j0
      exact (LeO.ite' (fun h0 => LeO.refl _) (fun h0 => (LeO.tst fun h2 => (LeO.rdI (by decide) h2 (ih_l0 _ _ _ _ _ _)))))
    · refine LeO.of (S.impl_OldestRound.l0.eq _ _ _ _ _ _) ?_
      unfold impl_OldestRound.l0
      exact (LeO.dec (fun h0 => (LeO.tst fun h1 => (LeO.tst fun h2 => (LeO.rdI h1 h2 (LeO.tst fun h3 => (LeO.tst fun h4 => (LeO.rdI h3 h4 (LeO.tst fun h5 => (LeO.tst fun h6 => (LeO.rdI h5 h6 (LeO.dec (fun h7 => (ih_l0 _ _ _ _ _ _)) (fun h7 => (ih_l0 _ _ _ _ _ _))))))))))))) (fun h0 => (LeO.tst fun h1 => (LeO.tst fun h2 => (LeO.rdI h1 h2 (LeO.refl _))))))
theorem impl_OldestRound.f.br (k : Nat) (x0 : List Int) (x1 : Int) (x2 : Int) : LeO (impl_OldestRound.f k x0 x1 x2) (S.impl_OldestRound.f x0 x1 x2) := by
  refine LeO.of (S.impl_OldestRound.f.eq _ _ _) ?_
  unfold impl_OldestRound.f
  have ih_j0 := (impl_OldestRound.br_l k).1
  exact (LeO.bind (impl_JubileesIn.f.br k _ _ _) (fun y1 => (LeO.nob (fun h0 => (ih_j0 _ _ _ _)) (fun h0 => (ih_j0 _ _ _ _)))))
mutual
def spec_OldestRound.j0 : Nat → List Int → Int → Int → Bool → Option (Int × Int × Bool)
  | 0, _, _, _, _ => none
  | k + 1, x0, x1, x2, x22 => if x22 = true then (some (0, 0, false)) else ((spec_roIn.f k x0 x1 x2).bind fun y1 => (spec_OldestRound.l0 k x0 x1 0 0 y1 (y1.length : Int) 0))
def spec_OldestRound.l0 : Nat → List Int → Int → Int → Int → List Int → Int → Int → Option (Int × Int × Bool)
  | 0, _, _, _, _, _, _, _ => none
  | k + 1, x0, x1, x9, x10, x26, x27, x28 => if x28 < x27 then (if 0 ≤ x28 then (if x28 < (x26.length : Int) then (if 0 ≤ (rde x26 x28) then (if (rde x26 x28) < (x0.length : Int) then (if (IntKind.i64.wrap (x1 - (rde x0 (rde x26 x28)))) > x10 then (spec_OldestRound.l0 k x0 x1 (rde x26 x28) (IntKind.i64.wrap (x1 - (rde x0 (rde x26 x28)))) x26 x27 (IntKind.i64.wrap (x28 + 1))) else (spec_OldestRound.l0 k x0 x1 x9 x10 x26 x27 (IntKind.i64.wrap (x28 + 1)))) else (none)) else (none)) else (none)) else (none)) else (if x10 = 0 then (some (0, 0, false)) else (some (x9, x10, true)))
end
def spec_OldestRound.f (k : Nat) (x0 : List Int) (x1 : Int) (x2 : Int) : Option (Int × Int × Bool) := (spec_roYear.f k x0 x1).bind fun y1 => (if y1 = true then ((spec_roEvery.f x2).bind fun y8 => (spec_OldestRound.j0 k x0 x1 x2 (!y8))) else (spec_OldestRound.j0 k x0 x1 x2 true))
theorem spec_OldestRound.br_l : ∀ k, (∀ (x0 : List Int) (x1 : Int) (x2 : Int) (x22 : Bool), LeO (spec_OldestRound.j0 k x0 x1 x2 x22) (S.spec_OldestRound.j0 x0 x1 x2 x22)) ∧ (∀ (x0 : List Int) (x1 : Int) (x9 : Int) (x10 : Int) (x26 : List Int) (x27 : Int) (x28 : Int), LeO (spec_OldestRound.l0 k x0 x1 x9 x10 x26 x27 x28) (S.spec_OldestRound.l0 x0 x1 x9 x10 x26 x27 x28))
  | 0 => ⟨fun _ _ _ _ => LeO.none _, fun _ _ _ _ _ _ _ => LeO.none _⟩
  | k + 1 => by
    have ih := spec_OldestRound.br_l k
    obtain ⟨ih_j0, ih_l0⟩ := ih
    refine ⟨fun x0 x1 x2 x22 => ?_, fun x0 x1 x9 x10 x26 x27 x28 => ?_⟩
    · refine LeO.of (S.spec_OldestRound.j0.eq _ _ _ _) ?_
      unfold spec_OldestRound.j0
      exact (LeO.ite' (fun h0 => LeO.refl _) (fun h0 => (LeO.bind (spec_roIn.f.br k _ _ _) (fun y1 => (ih_l0 _ _ _ _ _ _ _)))))
    · refine LeO.of (S.spec_OldestRound.l0.eq _ _ _ _ _ _ _) ?_
      unfold spec_OldestRound.l0
      exact (LeO.dec (fun h0 => (LeO.tst fun h1 => (LeO.tst fun h2 => (LeO.rdI h1 h2 (LeO.tst fun h3 => (LeO.tst fun h4 => (LeO.rdI h3 h4 (LeO.dec (fun h5 => (ih_l0 _ _ _ _ _ _ _)) (fun h5 => (ih_l0 _ _ _ _ _ _ _)))))))))) (fun h0 => (LeO.beq (fun h1 => LeO.refl _) (fun h1 => LeO.refl _))))
theorem spec_OldestRound.f.br (k : Nat) (x0 : List Int) (x1 : Int) (x2 : Int) : LeO (spec_OldestRound.f k x0 x1 x2) (S.spec_OldestRound.f x0 x1 x2) := by
  refine LeO.of (S.spec_OldestRound.f.eq _ _ _) ?_
  unfold spec_OldestRound.f
  have ih_j0 := (spec_OldestRound.br_l k).1
  exact (LeO.bind (spec_roYear.f.br k _ _) (fun y1 => (LeO.nob (fun h0 => (LeO.bind (spec_roEvery.f.br _) (fun y8 => (ih_j0 _ _ _ _)))) (fun h0 => (ih_j0 _ _ _ _)))))
def spec_DrawTogetherJubilees.f (k : Nat) (x0 : List Int) : Option ((List Int) × Int) := (spec_l1Cur_born.f k x0 0 0).bind fun y1 => ((spec_l1Cur_jubilee.f y1.2.1 y1.2.2.1 y1.2.2.2).bind fun y2 => (some (y1.1, y2.1)))
theorem spec_DrawTogetherJubilees.f.br (k : Nat) (x0 : List Int) : LeO (spec_DrawTogetherJubilees.f k x0) (S.spec_DrawTogetherJubilees.f x0) := by
  refine LeO.of (S.spec_DrawTogetherJubilees.f.eq _) ?_
  unfold spec_DrawTogetherJubilees.f
  exact (LeO.bind (spec_l1Cur_born.f.br k _ _ _) (fun y1 => (LeO.bind (spec_l1Cur_jubilee.f.br _ _ _) (fun y2 => LeO.refl _))))
mutual
def impl_TogetherJubilees.j0 : Nat → List Int → Int → Bool → Option ((List Int) × Bool)
  | 0, _, _, _ => none
  | k + 1, x0, x1, x15 => if x15 = true then (some ([], false)) else (impl_TogetherJubilees.l0 k x0 x1 [] 0)
def impl_TogetherJubilees.l0 : Nat → List Int → Int → List Int → Int → Option ((List Int) × Bool)
  | 0, _, _, _, _ => none
  | k + 1, x0, x1, x6, x17 => if x17 < 3001 then ((impl_jubilees.f k x0 x17 x1).bind fun y2 => (if (y2.length : Int) = (x0.length : Int) then (if x6.length < 17592186044416 then (impl_TogetherJubilees.l0 k x0 x1 (x6 ++ [x17]) (IntKind.i64.wrap (x17 + 1))) else (none)) else (impl_TogetherJubilees.l0 k x0 x1 x6 (IntKind.i64.wrap (x17 + 1))))) else (some (x6, true))
end
def impl_TogetherJubilees.f (k : Nat) (x0 : List Int) (x1 : Int) : Option ((List Int) × Bool) := (impl_AreBirths.f x0).bind fun y1 => (if y1 = true then ((impl_isEvery.f x1).bind fun y8 => (impl_TogetherJubilees.j0 k x0 x1 (!y8))) else (impl_TogetherJubilees.j0 k x0 x1 true))
theorem impl_TogetherJubilees.br_l : ∀ k, (∀ (x0 : List Int) (x1 : Int) (x15 : Bool), LeO (impl_TogetherJubilees.j0 k x0 x1 x15) (S.impl_TogetherJubilees.j0 x0 x1 x15)) ∧ (∀ (x0 : List Int) (x1 : Int) (x6 : List Int) (x17 : Int), LeO (impl_TogetherJubilees.l0 k x0 x1 x6 x17) (S.impl_TogetherJubilees.l0 x0 x1 x6 x17))
  | 0 => ⟨fun _ _ _ => LeO.none _, fun _ _ _ _ => LeO.none _⟩
  | k + 1 => by
    have ih := impl_TogetherJubilees.br_l k
    obtain ⟨ih_j0, ih_l0⟩ := ih
    refine ⟨fun x0 x1 x15 => ?_, fun x0 x1 x6 x17 => ?_⟩
    · refine LeO.of (S.impl_TogetherJubilees.j0.eq _ _ _) ?_
      unfold impl_TogetherJubilees.j0
      exact (LeO.ite' (fun h0 => LeO.refl _) (fun h0 => (ih_l0 _ _ _ _)))
    · refine LeO.of (S.impl_TogetherJubilees.l0.eq _ _ _ _) ?_
      unfold impl_TogetherJubilees.l0
      exact (LeO.dec (fun h0 => (LeO.bind (impl_jubilees.f.br k _ _ _) (fun y2 => (LeO.beq (fun h1 => (LeO.tst fun h2 => (LeO.cat1 h2 (ih_l0 _ _ _ _)))) (fun h1 => (ih_l0 _ _ _ _)))))) (fun h0 => LeO.refl _))
theorem impl_TogetherJubilees.f.br (k : Nat) (x0 : List Int) (x1 : Int) : LeO (impl_TogetherJubilees.f k x0 x1) (S.impl_TogetherJubilees.f x0 x1) := by
  refine LeO.of (S.impl_TogetherJubilees.f.eq _ _) ?_
  unfold impl_TogetherJubilees.f
  have ih_j0 := (impl_TogetherJubilees.br_l k).1
  exact (LeO.bind (impl_AreBirths.f.br _) (fun y1 => (LeO.nob (fun h0 => (LeO.bind (impl_isEvery.f.br _) (fun y8 => (ih_j0 _ _ _)))) (fun h0 => (ih_j0 _ _ _)))))
mutual
def spec_TogetherJubilees.j0 : Nat → List Int → Int → Bool → Option ((List Int) × Bool)
  | 0, _, _, _ => none
  | k + 1, x0, x1, x15 => if x15 = true then (some ([], false)) else (if 0 < (x0.length : Int) then (spec_TogetherJubilees.l0 k x0 x1 [] (IntKind.i64.wrap ((rde x0 0) + 1))) else (none))
def spec_TogetherJubilees.l0 : Nat → List Int → Int → List Int → Int → Option ((List Int) × Bool)
  | 0, _, _, _, _ => none
  | k + 1, x0, x1, x6, x7 => if 0 < (x0.length : Int) then (if x7 ≤ (IntKind.i64.wrap ((rde x0 0) + 120)) then (spec_TogetherJubilees.j1 k x0 x1 x6 x7 (decide (x7 ≤ 3000))) else (spec_TogetherJubilees.j1 k x0 x1 x6 x7 false)) else (none)
def spec_TogetherJubilees.j1 : Nat → List Int → Int → List Int → Int → Bool → Option ((List Int) × Bool)
  | 0, _, _, _, _, _ => none
  | k + 1, x0, x1, x6, x7, x29 => if x29 = true then ((spec_roIn.f k x0 x7 x1).bind fun y1 => (if (y1.length : Int) = (x0.length : Int) then (if x6.length < 17592186044416 then (spec_TogetherJubilees.l0 k x0 x1 (x6 ++ [x7]) (IntKind.i64.wrap (x7 + 1))) else (none)) else (spec_TogetherJubilees.l0 k x0 x1 x6 (IntKind.i64.wrap (x7 + 1))))) else (some (x6, true))
end
def spec_TogetherJubilees.f (k : Nat) (x0 : List Int) (x1 : Int) : Option ((List Int) × Bool) := (spec_roBorn.f k x0).bind fun y1 => (if y1 = true then ((spec_roEvery.f x1).bind fun y7 => (spec_TogetherJubilees.j0 k x0 x1 (!y7))) else (spec_TogetherJubilees.j0 k x0 x1 true))
theorem spec_TogetherJubilees.br_l : ∀ k, (∀ (x0 : List Int) (x1 : Int) (x15 : Bool), LeO (spec_TogetherJubilees.j0 k x0 x1 x15) (S.spec_TogetherJubilees.j0 x0 x1 x15)) ∧ (∀ (x0 : List Int) (x1 : Int) (x6 : List Int) (x7 : Int), LeO (spec_TogetherJubilees.l0 k x0 x1 x6 x7) (S.spec_TogetherJubilees.l0 x0 x1 x6 x7)) ∧ (∀ (x0 : List Int) (x1 : Int) (x6 : List Int) (x7 : Int) (x29 : Bool), LeO (spec_TogetherJubilees.j1 k x0 x1 x6 x7 x29) (S.spec_TogetherJubilees.j1 x0 x1 x6 x7 x29))
  | 0 => ⟨fun _ _ _ => LeO.none _, fun _ _ _ _ => LeO.none _, fun _ _ _ _ _ => LeO.none _⟩
  | k + 1 => by
    have ih := spec_TogetherJubilees.br_l k
    obtain ⟨ih_j0, ih_l0, ih_j1⟩ := ih
    refine ⟨fun x0 x1 x15 => ?_, fun x0 x1 x6 x7 => ?_, fun x0 x1 x6 x7 x29 => ?_⟩
    · refine LeO.of (S.spec_TogetherJubilees.j0.eq _ _ _) ?_
      unfold spec_TogetherJubilees.j0
      exact (LeO.ite' (fun h0 => LeO.refl _) (fun h0 => (LeO.tst fun h2 => (LeO.rdI (by decide) h2 (ih_l0 _ _ _ _)))))
    · refine LeO.of (S.spec_TogetherJubilees.l0.eq _ _ _ _) ?_
      unfold spec_TogetherJubilees.l0
      exact (LeO.tst fun h1 => (LeO.rdI (by decide) h1 (LeO.dec (fun h2 => (ih_j1 _ _ _ _ _)) (fun h2 => (ih_j1 _ _ _ _ _)))))
    · refine LeO.of (S.spec_TogetherJubilees.j1.eq _ _ _ _ _) ?_
      unfold spec_TogetherJubilees.j1
      exact (LeO.ite' (fun h0 => (LeO.bind (spec_roIn.f.br k _ _ _) (fun y1 => (LeO.beq (fun h1 => (LeO.tst fun h2 => (LeO.cat1 h2 (ih_l0 _ _ _ _)))) (fun h1 => (ih_l0 _ _ _ _)))))) (fun h0 => LeO.refl _))
theorem spec_TogetherJubilees.f.br (k : Nat) (x0 : List Int) (x1 : Int) : LeO (spec_TogetherJubilees.f k x0 x1) (S.spec_TogetherJubilees.f x0 x1) := by
  refine LeO.of (S.spec_TogetherJubilees.f.eq _ _) ?_
  unfold spec_TogetherJubilees.f
  have ih_j0 := (spec_TogetherJubilees.br_l k).1
  exact (LeO.bind (spec_roBorn.f.br k _) (fun y1 => (LeO.nob (fun h0 => (LeO.bind (spec_roEvery.f.br _) (fun y7 => (ih_j0 _ _ _)))) (fun h0 => (ih_j0 _ _ _)))))
def spec_DrawAnniversaries.f (x0 : List Int) : Option (Int × Int × Int × Int) := (spec_l1Cur_span.f x0 0 0).bind fun y1 => ((spec_l1Cur_year.f y1.2.2.1 y1.2.2.2.1 y1.2.2.2.2).bind fun y2 => ((spec_l1Cur_jubilee.f y2.2.1 y2.2.2.1 y2.2.2.2).bind fun y3 => (some (y2.1, y1.1, y1.2.1, y3.1))))
theorem spec_DrawAnniversaries.f.br (x0 : List Int) : LeO (spec_DrawAnniversaries.f x0) (S.spec_DrawAnniversaries.f x0) := by
  refine LeO.of (S.spec_DrawAnniversaries.f.eq _) ?_
  unfold spec_DrawAnniversaries.f
  exact (LeO.bind (spec_l1Cur_span.f.br _ _ _) (fun y1 => (LeO.bind (spec_l1Cur_year.f.br _ _ _) (fun y2 => (LeO.bind (spec_l1Cur_jubilee.f.br _ _ _) (fun y3 => LeO.refl _))))))
mutual
def impl_Anniversaries.j0 : Nat → Int → Int → Int → Int → Bool → Option ((List Int) × Bool)
  | 0, _, _, _, _, _ => none
  | k + 1, x0, x1, x2, x3, x25 => if x25 = true then (some ([], false)) else (impl_Anniversaries.l0 k x0 x2 x3 [] x1)
def impl_Anniversaries.l0 : Nat → Int → Int → Int → List Int → Int → Option ((List Int) × Bool)
  | 0, _, _, _, _, _ => none
  | k + 1, x0, x2, x3, x10, x11 => if x11 ≤ x2 then ((impl_isRound.f (IntKind.i64.wrap (x11 - x0)) x3).bind fun y3 => (if y3 = true then (if x10.length < 17592186044416 then (impl_Anniversaries.l0 k x0 x2 x3 (x10 ++ [x11]) (IntKind.i64.wrap (x11 + 1))) else (none)) else (impl_Anniversaries.l0 k x0 x2 x3 x10 (IntKind.i64.wrap (x11 + 1))))) else (some (x10, true))
end
def impl_Anniversaries.f (k : Nat) (x0 : Int) (x1 : Int) (x2 : Int) (x3 : Int) : Option ((List Int) × Bool) := (impl_isYear.f x0).bind fun y1 => (if y1 = true then ((impl_isSpan.f x1 x2).bind fun y7 => (if y7 = true then ((impl_isEvery.f x3).bind fun y9 => (impl_Anniversaries.j0 k x0 x1 x2 x3 (!y9))) else (impl_Anniversaries.j0 k x0 x1 x2 x3 true))) else (impl_Anniversaries.j0 k x0 x1 x2 x3 true))
theorem impl_Anniversaries.br_l : ∀ k, (∀ (x0 : Int) (x1 : Int) (x2 : Int) (x3 : Int) (x25 : Bool), LeO (impl_Anniversaries.j0 k x0 x1 x2 x3 x25) (S.impl_Anniversaries.j0 x0 x1 x2 x3 x25)) ∧ (∀ (x0 : Int) (x2 : Int) (x3 : Int) (x10 : List Int) (x11 : Int), LeO (impl_Anniversaries.l0 k x0 x2 x3 x10 x11) (S.impl_Anniversaries.l0 x0 x2 x3 x10 x11))
  | 0 => ⟨fun _ _ _ _ _ => LeO.none _, fun _ _ _ _ _ => LeO.none _⟩
  | k + 1 => by
    have ih := impl_Anniversaries.br_l k
    obtain ⟨ih_j0, ih_l0⟩ := ih
    refine ⟨fun x0 x1 x2 x3 x25 => ?_, fun x0 x2 x3 x10 x11 => ?_⟩
    · refine LeO.of (S.impl_Anniversaries.j0.eq _ _ _ _ _) ?_
      unfold impl_Anniversaries.j0
      exact (LeO.ite' (fun h0 => LeO.refl _) (fun h0 => (ih_l0 _ _ _ _ _)))
    · refine LeO.of (S.impl_Anniversaries.l0.eq _ _ _ _ _) ?_
      unfold impl_Anniversaries.l0
      exact (LeO.dec (fun h0 => (LeO.bind (impl_isRound.f.br _ _) (fun y3 => (LeO.ite' (fun h1 => (LeO.tst fun h2 => (LeO.cat1 h2 (ih_l0 _ _ _ _ _)))) (fun h1 => (ih_l0 _ _ _ _ _)))))) (fun h0 => LeO.refl _))
theorem impl_Anniversaries.f.br (k : Nat) (x0 : Int) (x1 : Int) (x2 : Int) (x3 : Int) : LeO (impl_Anniversaries.f k x0 x1 x2 x3) (S.impl_Anniversaries.f x0 x1 x2 x3) := by
  refine LeO.of (S.impl_Anniversaries.f.eq _ _ _ _) ?_
  unfold impl_Anniversaries.f
  have ih_j0 := (impl_Anniversaries.br_l k).1
  exact (LeO.bind (impl_isYear.f.br _) (fun y1 => (LeO.nob (fun h0 => (LeO.bind (impl_isSpan.f.br _ _) (fun y7 => (LeO.nob (fun h1 => (LeO.bind (impl_isEvery.f.br _) (fun y9 => (ih_j0 _ _ _ _ _)))) (fun h1 => (ih_j0 _ _ _ _ _)))))) (fun h0 => (ih_j0 _ _ _ _ _)))))
mutual
def spec_Anniversaries.j0 : Nat → Int → Int → Int → Int → Bool → Option ((List Int) × Bool)
  | 0, _, _, _, _, _ => none
  | k + 1, x0, x1, x2, x3, x25 => if x25 = true then (some ([], false)) else (spec_Anniversaries.l0 k x0 x2 x3 [] x1)
def spec_Anniversaries.l0 : Nat → Int → Int → Int → List Int → Int → Option ((List Int) × Bool)
  | 0, _, _, _, _, _ => none
  | k + 1, x0, x2, x3, x10, x11 => if x11 ≤ x2 then ((spec_roRound.f (IntKind.i64.wrap (x11 - x0)) x3).bind fun y3 => (if y3 = true then (if x10.length < 17592186044416 then (spec_Anniversaries.l0 k x0 x2 x3 (x10 ++ [x11]) (IntKind.i64.wrap (x11 + 1))) else (none)) else (spec_Anniversaries.l0 k x0 x2 x3 x10 (IntKind.i64.wrap (x11 + 1))))) else (some (x10, true))
end
def spec_Anniversaries.f (k : Nat) (x0 : Int) (x1 : Int) (x2 : Int) (x3 : Int) : Option ((List Int) × Bool) := (spec_l1In.f x0 0 3000).bind fun y1 => (if y1 = true then ((spec_roSpan.f x1 x2).bind fun y7 => (if y7 = true then ((spec_roEvery.f x3).bind fun y9 => (spec_Anniversaries.j0 k x0 x1 x2 x3 (!y9))) else (spec_Anniversaries.j0 k x0 x1 x2 x3 true))) else (spec_Anniversaries.j0 k x0 x1 x2 x3 true))
theorem spec_Anniversaries.br_l : ∀ k, (∀ (x0 : Int) (x1 : Int) (x2 : Int) (x3 : Int) (x25 : Bool), LeO (spec_Anniversaries.j0 k x0 x1 x2 x3 x25) (S.spec_Anniversaries.j0 x0 x1 x2 x3 x25)) ∧ (∀ (x0 : Int) (x2 : Int) (x3 : Int) (x10 : List Int) (x11 : Int), LeO (spec_Anniversaries.l0 k x0 x2 x3 x10 x11) (S.spec_Anniversaries.l0 x0 x2 x3 x10 x11))
  | 0 => ⟨fun _ _ _ _ _ => LeO.none _, fun _ _ _ _ _ => LeO.none _⟩
  | k + 1 => by
    have ih := spec_Anniversaries.br_l k
    obtain ⟨ih_j0, ih_l0⟩ := ih
    refine ⟨fun x0 x1 x2 x3 x25 => ?_, fun x0 x2 x3 x10 x11 => ?_⟩
    · refine LeO.of (S.spec_Anniversaries.j0.eq _ _ _ _ _) ?_
      unfold spec_Anniversaries.j0
      exact (LeO.ite' (fun h0 => LeO.refl _) (fun h0 => (ih_l0 _ _ _ _ _)))
    · refine LeO.of (S.spec_Anniversaries.l0.eq _ _ _ _ _) ?_
      unfold spec_Anniversaries.l0
      exact (LeO.dec (fun h0 => (LeO.bind (spec_roRound.f.br _ _) (fun y3 => (LeO.ite' (fun h1 => (LeO.tst fun h2 => (LeO.cat1 h2 (ih_l0 _ _ _ _ _)))) (fun h1 => (ih_l0 _ _ _ _ _)))))) (fun h0 => LeO.refl _))
theorem spec_Anniversaries.f.br (k : Nat) (x0 : Int) (x1 : Int) (x2 : Int) (x3 : Int) : LeO (spec_Anniversaries.f k x0 x1 x2 x3) (S.spec_Anniversaries.f x0 x1 x2 x3) := by
  refine LeO.of (S.spec_Anniversaries.f.eq _ _ _ _) ?_
  unfold spec_Anniversaries.f
  have ih_j0 := (spec_Anniversaries.br_l k).1
  exact (LeO.bind (spec_l1In.f.br _ _ _) (fun y1 => (LeO.nob (fun h0 => (LeO.bind (spec_roSpan.f.br _ _) (fun y7 => (LeO.nob (fun h1 => (LeO.bind (spec_roEvery.f.br _) (fun y9 => (ih_j0 _ _ _ _ _)))) (fun h1 => (ih_j0 _ _ _ _ _)))))) (fun h0 => (ih_j0 _ _ _ _ _)))))
def laws_qHas.l0 : Nat → Int → List Int → Int → Int → Option (Bool)
  | 0, _, _, _, _ => none
  | k + 1, x1, x7, x8, x9 => if x9 < x8 then (if 0 ≤ x9 then (if x9 < (x7.length : Int) then (if (rde x7 x9) = x1 then (some true) else (laws_qHas.l0 k x1 x7 x8 (IntKind.i64.wrap (x9 + 1)))) else (none)) else (none)) else (some false)
def laws_qHas.f (k : Nat) (x0 : List Int) (x1 : Int) : Option (Bool) := laws_qHas.l0 k x1 x0 (x0.length : Int) 0
theorem laws_qHas.br_l : ∀ k, (∀ (x1 : Int) (x7 : List Int) (x8 : Int) (x9 : Int), LeO (laws_qHas.l0 k x1 x7 x8 x9) (S.laws_qHas.l0 x1 x7 x8 x9))
  | 0 => fun _ _ _ _ => LeO.none _
  | k + 1 => by
    have ih := laws_qHas.br_l k
    have ih_l0 := ih
    refine fun x1 x7 x8 x9 => ?_
    · refine LeO.of (S.laws_qHas.l0.eq _ _ _ _) ?_
      show LeO (laws_qHas.l0 (k + 1) x1 x7 x8 x9) _
      unfold laws_qHas.l0
      exact (LeO.dec (fun h0 => (LeO.tst fun h1 => (LeO.tst fun h2 => (LeO.rdI h1 h2 (LeO.beq (fun h3 => LeO.refl _) (fun h3 => (ih_l0 _ _ _ _))))))) (fun h0 => LeO.refl _))
theorem laws_qHas.f.br (k : Nat) (x0 : List Int) (x1 : Int) : LeO (laws_qHas.f k x0 x1) (S.laws_qHas.f x0 x1) := by
  refine LeO.of (S.laws_qHas.f.eq _ _) ?_
  unfold laws_qHas.f
  have ih_l0 := (laws_qHas.br_l k)
  exact (ih_l0 _ _ _ _)
mutual
def laws_FnJubileesCome.j0 : Nat → List Int → List Int → Int → Int → Int → List (List Int) → Bool → Int → Int → Int → Int → Int → Bool → Bool → Option (Bool)
  | 0, _, _, _, _, _, _, _, _, _, _, _, _, _, _ => none
  | k + 1, x1, x5, x6, x7, x8, x9, x10, x13, x17, x18, x23, x24, x25, x248 => if x248 = true then (some false) else (if x10 = true then (laws_FnJubileesCome.l0 k x1 x5 x6 x7 x8 x9 x13 x17 x18 x23 x24 x25 0 0 0 x6) else (laws_FnJubileesCome.j4 k x1))
def laws_FnJubileesCome.l0 : Nat → List Int → List Int → Int → Int → Int → List (List Int) → Int → Int → Int → Int → Int → Bool → Int → Int → Int → Int → Option (Bool)
  | 0, _, _, _, _, _, _, _, _, _, _, _, _, _, _, _, _ => none
  | k + 1, x1, x5, x6, x7, x8, x9, x13, x17, x18, x23, x24, x25, x29, x30, x31, x32 => if x32 ≤ x7 then ((impl_JubileesIn.f k x5 x32 x8).bind fun y2 => (if y2.2 = true then ((laws_qRises.f k y2.1).bind fun y34 => (if y34 = true then (if (y2.1.length : Int) > x18 then (laws_FnJubileesCome.j1 k x1 x5 x6 x7 x8 x9 x13 x17 x18 x23 x24 x25 x29 x30 x31 x32 y2.1 true) else (if (y2.1.length : Int) = x18 then (if x32 < x17 then (laws_FnJubileesCome.j1 k x1 x5 x6 x7 x8 x9 x13 x17 x18 x23 x24 x25 x29 x30 x31 x32 y2.1 true) else (if x32 = x17 then (laws_FnJubileesCome.j1 k x1 x5 x6 x7 x8 x9 x13 x17 x18 x23 x24 x25 x29 x30 x31 x32 y2.1 ((y2.1.length : Int) != x18)) else (laws_FnJubileesCome.j1 k x1 x5 x6 x7 x8 x9 x13 x17 x18 x23 x24 x25 x29 x30 x31 x32 y2.1 false))) else (if x32 = x17 then (laws_FnJubileesCome.j1 k x1 x5 x6 x7 x8 x9 x13 x17 x18 x23 x24 x25 x29 x30 x31 x32 y2.1 ((y2.1.length : Int) != x18)) else (laws_FnJubileesCome.j1 k x1 x5 x6 x7 x8 x9 x13 x17 x18 x23 x24 x25 x29 x30 x31 x32 y2.1 false)))) else (laws_FnJubileesCome.j1 k x1 x5 x6 x7 x8 x9 x13 x17 x18 x23 x24 x25 x29 x30 x31 x32 y2.1 true))) else (laws_FnJubileesCome.j1 k x1 x5 x6 x7 x8 x9 x13 x17 x18 x23 x24 x25 x29 x30 x31 x32 y2.1 true))) else (if x29 = x13 then (laws_FnJubileesCome.j3 k x1 x5 x6 x7 x8 x23 x24 x25 (x30 != (x9.length : Int))) else (laws_FnJubileesCome.j3 k x1 x5 x6 x7 x8 x23 x24 x25 true))
def laws_FnJubileesCome.j1 : Nat → List Int → List Int → Int → Int → Int → List (List Int) → Int → Int → Int → Int → Int → Bool → Int → Int → Int → Int → List Int → Bool → Option (Bool)
  | 0, _, _, _, _, _, _, _, _, _, _, _, _, _, _, _, _, _, _ => none
  | k + 1, x1, x5, x6, x7, x8, x9, x13, x17, x18, x23, x24, x25, x29, x30, x31, x32, x33, x297 => if x297 = true then (some false) else (if (x33.length : Int) > 0 then (if x30 ≥ (x9.length : Int) then (laws_FnJubileesCome.j2 k x1 x5 x6 x7 x8 x9 x13 x17 x18 x23 x24 x25 (IntKind.i64.wrap (x29 + (x33.length : Int))) x30 x32 true) else (if 0 ≤ x30 then (if x30 < (x9.length : Int) then (if ((rde x9 x30).length : Int) = (IntKind.i64.wrap ((x33.length : Int) + 1)) then (if 0 < ((rde x9 x30).length : Int) then (if (rde (rde x9 x30) 0) = x32 then ((subI (rde x9 x30) 1 (rde x9 x30).length).bind fun y19 => ((laws_qSame.f k y19 x33).bind fun y20 => (laws_FnJubileesCome.j2 k x1 x5 x6 x7 x8 x9 x13 x17 x18 x23 x24 x25 (IntKind.i64.wrap (x29 + (x33.length : Int))) x30 x32 (!y20)))) else (laws_FnJubileesCome.j2 k x1 x5 x6 x7 x8 x9 x13 x17 x18 x23 x24 x25 (IntKind.i64.wrap (x29 + (x33.length : Int))) x30 x32 true)) else (none)) else (laws_FnJubileesCome.j2 k x1 x5 x6 x7 x8 x9 x13 x17 x18 x23 x24 x25 (IntKind.i64.wrap (x29 + (x33.length : Int))) x30 x32 true)) else (none)) else (none))) else (if (IntKind.i64.wrap (x31 + 1)) > x24 then (some false) else (if (IntKind.i64.wrap (x31 + 1)) = x24 then (if (IntKind.i64.wrap (x31 + 1)) > 0 then (if (IntKind.i64.wrap ((IntKind.i64.wrap (x32 - (IntKind.i64.wrap (x31 + 1)))) + 1)) < x23 then (some false) else (laws_FnJubileesCome.l0 k x1 x5 x6 x7 x8 x9 x13 x17 x18 x23 x24 x25 (IntKind.i64.wrap (x29 + (x33.length : Int))) x30 (IntKind.i64.wrap (x31 + 1)) (IntKind.i64.wrap (x32 + 1)))) else (laws_FnJubileesCome.l0 k x1 x5 x6 x7 x8 x9 x13 x17 x18 x23 x24 x25 (IntKind.i64.wrap (x29 + (x33.length : Int))) x30 (IntKind.i64.wrap (x31 + 1)) (IntKind.i64.wrap (x32 + 1)))) else (laws_FnJubileesCome.l0 k x1 x5 x6 x7 x8 x9 x13 x17 x18 x23 x24 x25 (IntKind.i64.wrap (x29 + (x33.length : Int))) x30 (IntKind.i64.wrap (x31 + 1)) (IntKind.i64.wrap (x32 + 1))))))
def laws_FnJubileesCome.j2 : Nat → List Int → List Int → Int → Int → Int → List (List Int) → Int → Int → Int → Int → Int → Bool → Int → Int → Int → Bool → Option (Bool)
  | 0, _, _, _, _, _, _, _, _, _, _, _, _, _, _, _, _ => none
  | k + 1, x1, x5, x6, x7, x8, x9, x13, x17, x18, x23, x24, x25, x29, x30, x32, x341 => if x341 = true then (some false) else (if 0 > x24 then (some false) else (if 0 = x24 then (laws_FnJubileesCome.l0 k x1 x5 x6 x7 x8 x9 x13 x17 x18 x23 x24 x25 x29 (IntKind.i64.wrap (x30 + 1)) 0 (IntKind.i64.wrap (x32 + 1))) else (laws_FnJubileesCome.l0 k x1 x5 x6 x7 x8 x9 x13 x17 x18 x23 x24 x25 x29 (IntKind.i64.wrap (x30 + 1)) 0 (IntKind.i64.wrap (x32 + 1)))))
def laws_FnJubileesCome.j3 : Nat → List Int → List Int → Int → Int → Int → Int → Int → Bool → Bool → Option (Bool)
  | 0, _, _, _, _, _, _, _, _, _ => none
  | k + 1, x1, x5, x6, x7, x8, x23, x24, x25, x372 => if x372 = true then (some false) else (if x25 = true then (laws_FnJubileesCome.l1 k x1 x5 x6 x7 x8 x23 x24 x23) else (laws_FnJubileesCome.j4 k x1))
def laws_FnJubileesCome.l1 : Nat → List Int → List Int → Int → Int → Int → Int → Int → Int → Option (Bool)
  | 0, _, _, _, _, _, _, _, _ => none
  | k + 1, x1, x5, x6, x7, x8, x23, x24, x35 => if x35 < (IntKind.i64.wrap (x23 + x24)) then ((impl_JubileesIn.f k x5 x35 x8).bind fun y3 => (if x35 < x6 then (some false) else (if x35 > x7 then (some false) else (if y3.2 = true then (if (y3.1.length : Int) = 0 then (laws_FnJubileesCome.l1 k x1 x5 x6 x7 x8 x23 x24 (IntKind.i64.wrap (x35 + 1))) else (some false)) else (some false))))) else (laws_FnJubileesCome.j4 k x1)
def laws_FnJubileesCome.j4 : Nat → List Int → Option (Bool)
  | 0, _ => none
  | k + 1, x1 => (spec_DrawNextJubilee.f k x1).bind fun y1 => ((impl_NextJubilee.f k y1.1 y1.2.1 y1.2.2).bind fun y2 => ((spec_NextJubilee.f k y1.1 y1.2.1 y1.2.2).bind fun y3 => ((impl_JubileesIn.f k y1.1 y1.2.1 y1.2.2).bind fun y4 => ((spec_JubileesIn.f k y1.1 y1.2.1 y1.2.2).bind fun y5 => ((impl_OldestRound.f k y1.1 y1.2.1 y1.2.2).bind fun y6 => ((spec_OldestRound.f k y1.1 y1.2.1 y1.2.2).bind fun y7 => ((spec_DrawTogetherJubilees.f k x1).bind fun y8 => ((impl_TogetherJubilees.f k y8.1 y8.2).bind fun y9 => ((spec_TogetherJubilees.f k y8.1 y8.2).bind fun y10 => ((spec_DrawAnniversaries.f x1).bind fun y11 => ((impl_Anniversaries.f k y11.1 y11.2.1 y11.2.2.1 y11.2.2.2).bind fun y14 => ((spec_Anniversaries.f k y11.1 y11.2.1 y11.2.2.1 y11.2.2.2).bind fun y15 => (if (y2.2 != y3.2) = true then (laws_FnJubileesCome.j5 k y1.1 y1.2.1 y1.2.2 y2.1 y2.2 y4.1 y4.2 y6.1 y6.2.1 y6.2.2 y8.1 y8.2 y9.1 y9.2 y11.1 y11.2.1 y11.2.2.1 y11.2.2.2 y14.1 y14.2 true) else (if y2.1 = y3.1 then (if (y4.2 != y5.2) = true then (laws_FnJubileesCome.j5 k y1.1 y1.2.1 y1.2.2 y2.1 y2.2 y4.1 y4.2 y6.1 y6.2.1 y6.2.2 y8.1 y8.2 y9.1 y9.2 y11.1 y11.2.1 y11.2.2.1 y11.2.2.2 y14.1 y14.2 true) else ((laws_qSame.f k y4.1 y5.1).bind fun y21 => (if y21 = true then (if (y6.2.2 != y7.2.2) = true then (laws_FnJubileesCome.j5 k y1.1 y1.2.1 y1.2.2 y2.1 y2.2 y4.1 y4.2 y6.1 y6.2.1 y6.2.2 y8.1 y8.2 y9.1 y9.2 y11.1 y11.2.1 y11.2.2.1 y11.2.2.2 y14.1 y14.2 true) else (if y6.1 = y7.1 then (if y6.2.1 = y7.2.1 then (if (y9.2 != y10.2) = true then (laws_FnJubileesCome.j5 k y1.1 y1.2.1 y1.2.2 y2.1 y2.2 y4.1 y4.2 y6.1 y6.2.1 y6.2.2 y8.1 y8.2 y9.1 y9.2 y11.1 y11.2.1 y11.2.2.1 y11.2.2.2 y14.1 y14.2 true) else ((laws_qSame.f k y9.1 y10.1).bind fun y31 => (if y31 = true then (if (y14.2 != y15.2) = true then (laws_FnJubileesCome.j5 k y1.1 y1.2.1 y1.2.2 y2.1 y2.2 y4.1 y4.2 y6.1 y6.2.1 y6.2.2 y8.1 y8.2 y9.1 y9.2 y11.1 y11.2.1 y11.2.2.1 y11.2.2.2 y14.1 y14.2 true) else ((laws_qSame.f k y14.1 y15.1).bind fun y35 => (if y35 = true then (if y4.2 = true then (if (y6.2.2 != (decide ((y4.1.length : Int) > 0))) = true then (laws_FnJubileesCome.j5 k y1.1 y1.2.1 y1.2.2 y2.1 y2.2 y4.1 y4.2 y6.1 y6.2.1 y6.2.2 y8.1 y8.2 y9.1 y9.2 y11.1 y11.2.1 y11.2.2.1 y11.2.2.2 y14.1 y14.2 true) else (if y2.2 = true then (laws_FnJubileesCome.j5 k y1.1 y1.2.1 y1.2.2 y2.1 y2.2 y4.1 y4.2 y6.1 y6.2.1 y6.2.2 y8.1 y8.2 y9.1 y9.2 y11.1 y11.2.1 y11.2.2.1 y11.2.2.2 y14.1 y14.2 (!y4.2)) else (laws_FnJubileesCome.j5 k y1.1 y1.2.1 y1.2.2 y2.1 y2.2 y4.1 y4.2 y6.1 y6.2.1 y6.2.2 y8.1 y8.2 y9.1 y9.2 y11.1 y11.2.1 y11.2.2.1 y11.2.2.2 y14.1 y14.2 false))) else (if (y6.2.2 != false) = true then (laws_FnJubileesCome.j5 k y1.1 y1.2.1 y1.2.2 y2.1 y2.2 y4.1 y4.2 y6.1 y6.2.1 y6.2.2 y8.1 y8.2 y9.1 y9.2 y11.1 y11.2.1 y11.2.2.1 y11.2.2.2 y14.1 y14.2 true) else (if y2.2 = true then (laws_FnJubileesCome.j5 k y1.1 y1.2.1 y1.2.2 y2.1 y2.2 y4.1 y4.2 y6.1 y6.2.1 y6.2.2 y8.1 y8.2 y9.1 y9.2 y11.1 y11.2.1 y11.2.2.1 y11.2.2.2 y14.1 y14.2 (!y4.2)) else (laws_FnJubileesCome.j5 k y1.1 y1.2.1 y1.2.2 y2.1 y2.2 y4.1 y4.2 y6.1 y6.2.1 y6.2.2 y8.1 y8.2 y9.1 y9.2 y11.1 y11.2.1 y11.2.2.1 y11.2.2.2 y14.1 y14.2 false)))) else (laws_FnJubileesCome.j5 k y1.1 y1.2.1 y1.2.2 y2.1 y2.2 y4.1 y4.2 y6.1 y6.2.1 y6.2.2 y8.1 y8.2 y9.1 y9.2 y11.1 y11.2.1 y11.2.2.1 y11.2.2.2 y14.1 y14.2 true)))) else (laws_FnJubileesCome.j5 k y1.1 y1.2.1 y1.2.2 y2.1 y2.2 y4.1 y4.2 y6.1 y6.2.1 y6.2.2 y8.1 y8.2 y9.1 y9.2 y11.1 y11.2.1 y11.2.2.1 y11.2.2.2 y14.1 y14.2 true)))) else (laws_FnJubileesCome.j5 k y1.1 y1.2.1 y1.2.2 y2.1 y2.2 y4.1 y4.2 y6.1 y6.2.1 y6.2.2 y8.1 y8.2 y9.1 y9.2 y11.1 y11.2.1 y11.2.2.1 y11.2.2.2 y14.1 y14.2 true)) else (laws_FnJubileesCome.j5 k y1.1 y1.2.1 y1.2.2 y2.1 y2.2 y4.1 y4.2 y6.1 y6.2.1 y6.2.2 y8.1 y8.2 y9.1 y9.2 y11.1 y11.2.1 y11.2.2.1 y11.2.2.2 y14.1 y14.2 true))) else (laws_FnJubileesCome.j5 k y1.1 y1.2.1 y1.2.2 y2.1 y2.2 y4.1 y4.2 y6.1 y6.2.1 y6.2.2 y8.1 y8.2 y9.1 y9.2 y11.1 y11.2.1 y11.2.2.1 y11.2.2.2 y14.1 y14.2 true)))) else (laws_FnJubileesCome.j5 k y1.1 y1.2.1 y1.2.2 y2.1 y2.2 y4.1 y4.2 y6.1 y6.2.1 y6.2.2 y8.1 y8.2 y9.1 y9.2 y11.1 y11.2.1 y11.2.2.1 y11.2.2.2 y14.1 y14.2 true)))))))))))))))
def laws_FnJubileesCome.j5 : Nat → List Int → Int → Int → Int → Bool → List Int → Bool → Int → Int → Bool → List Int → Int → List Int → Bool → Int → Int → Int → Int → List Int → Bool → Bool → Option (Bool)
  | 0, _, _, _, _, _, _, _, _, _, _, _, _, _, _, _, _, _, _, _, _, _ => none
  | k + 1, x38, x39, x40, x41, x42, x45, x46, x49, x50, x51, x55, x56, x57, x58, x61, x62, x63, x64, x65, x66, x568 => if x568 = true then (some false) else (if x46 = true then (laws_FnJubileesCome.l2 k x39 x40 x41 x42 x45 x49 x50 x51 x55 x56 x57 x58 x61 x62 x63 x64 x65 x66 x38 (x38.length : Int) 0) else (laws_FnJubileesCome.j6 k x38 x39 x40 x41 x42 x45 x49 x50 x51 x55 x56 x57 x58 x61 x62 x63 x64 x65 x66))
def laws_FnJubileesCome.l2 : Nat → Int → Int → Int → Bool → List Int → Int → Int → Bool → List Int → Int → List Int → Bool → Int → Int → Int → Int → List Int → Bool → List Int → Int → Int → Option (Bool)
  | 0, _, _, _, _, _, _, _, _, _, _, _, _, _, _, _, _, _, _, _, _, _ => none
  | k + 1, x39, x40, x41, x42, x45, x49, x50, x51, x55, x56, x57, x58, x61, x62, x63, x64, x65, x66, x38, x571, x572 => if x572 < x571 then (if 0 ≤ x572 then (if x572 < (x38.length : Int) then ((laws_qHas.f k x45 x572).bind fun y4 => (if (IntKind.i64.wrap (x39 - (rde x38 x572))) > 0 then (if (IntKind.i64.wrap (x39 - (rde x38 x572))) ≤ 120 then (if x40 = 0 then (none) else (if (y4 != (((IntKind.i64.wrap (x39 - (rde x38 x572))).tmod x40) == 0)) = true then (some false) else (laws_FnJubileesCome.l2 k x39 x40 x41 x42 x45 x49 x50 x51 x55 x56 x57 x58 x61 x62 x63 x64 x65 x66 x38 x571 (IntKind.i64.wrap (x572 + 1))))) else (if (y4 != false) = true then (some false) else (laws_FnJubileesCome.l2 k x39 x40 x41 x42 x45 x49 x50 x51 x55 x56 x57 x58 x61 x62 x63 x64 x65 x66 x38 x571 (IntKind.i64.wrap (x572 + 1))))) else (if (y4 != false) = true then (some false) else (laws_FnJubileesCome.l2 k x39 x40 x41 x42 x45 x49 x50 x51 x55 x56 x57 x58 x61 x62 x63 x64 x65 x66 x38 x571 (IntKind.i64.wrap (x572 + 1)))))) else (none)) else (none)) else (laws_FnJubileesCome.j6 k x38 x39 x40 x41 x42 x45 x49 x50 x51 x55 x56 x57 x58 x61 x62 x63 x64 x65 x66)
def laws_FnJubileesCome.j6 : Nat → List Int → Int → Int → Int → Bool → List Int → Int → Int → Bool → List Int → Int → List Int → Bool → Int → Int → Int → Int → List Int → Bool → Option (Bool)
  | 0, _, _, _, _, _, _, _, _, _, _, _, _, _, _, _, _, _, _, _ => none
  | k + 1, x38, x39, x40, x41, x42, x45, x49, x50, x51, x55, x56, x57, x58, x61, x62, x63, x64, x65, x66 => if x42 = true then (if x41 ≤ x39 then (some false) else (laws_FnJubileesCome.l3 k x38 x39 x40 x41 x45 x49 x50 x51 x55 x56 x57 x58 x61 x62 x63 x64 x65 x66 (IntKind.i64.wrap (x39 + 1)))) else (laws_FnJubileesCome.j8 k x38 x39 x45 x49 x50 x51 x55 x56 x57 x58 x61 x62 x63 x64 x65 x66)
def laws_FnJubileesCome.l3 : Nat → List Int → Int → Int → Int → List Int → Int → Int → Bool → List Int → Int → List Int → Bool → Int → Int → Int → Int → List Int → Bool → Int → Option (Bool)
  | 0, _, _, _, _, _, _, _, _, _, _, _, _, _, _, _, _, _, _, _ => none
  | k + 1, x38, x39, x40, x41, x45, x49, x50, x51, x55, x56, x57, x58, x61, x62, x63, x64, x65, x66, x72 => if x72 ≤ x41 then (laws_FnJubileesCome.j7 k x38 x39 x40 x41 x45 x49 x50 x51 x55 x56 x57 x58 x61 x62 x63 x64 x65 x66 x72 (decide (x72 < (IntKind.i64.wrap (x39 + 60))))) else (laws_FnJubileesCome.j7 k x38 x39 x40 x41 x45 x49 x50 x51 x55 x56 x57 x58 x61 x62 x63 x64 x65 x66 x72 false)
def laws_FnJubileesCome.j7 : Nat → List Int → Int → Int → Int → List Int → Int → Int → Bool → List Int → Int → List Int → Bool → Int → Int → Int → Int → List Int → Bool → Int → Bool → Option (Bool)
  | 0, _, _, _, _, _, _, _, _, _, _, _, _, _, _, _, _, _, _, _, _ => none
  | k + 1, x38, x39, x40, x41, x45, x49, x50, x51, x55, x56, x57, x58, x61, x62, x63, x64, x65, x66, x72, x611 => if x611 = true then ((impl_JubileesIn.f k x38 x72 x40).bind fun y1 => (if y1.2 = true then (if ((decide ((y1.1.length : Int) > 0)) != (x72 == x41)) = true then (some false) else (laws_FnJubileesCome.l3 k x38 x39 x40 x41 x45 x49 x50 x51 x55 x56 x57 x58 x61 x62 x63 x64 x65 x66 (IntKind.i64.wrap (x72 + 1)))) else (some false))) else (laws_FnJubileesCome.j8 k x38 x39 x45 x49 x50 x51 x55 x56 x57 x58 x61 x62 x63 x64 x65 x66)
def laws_FnJubileesCome.j8 : Nat → List Int → Int → List Int → Int → Int → Bool → List Int → Int → List Int → Bool → Int → Int → Int → Int → List Int → Bool → Option (Bool)
  | 0, _, _, _, _, _, _, _, _, _, _, _, _, _, _, _, _ => none
  | k + 1, x38, x39, x45, x49, x50, x51, x55, x56, x57, x58, x61, x62, x63, x64, x65, x66 => if x51 = true then ((laws_qHas.f k x45 x49).bind fun y1 => (if y1 = true then (if 0 ≤ x49 then (if x49 < (x38.length : Int) then (laws_FnJubileesCome.j9 k x38 x39 x45 x49 x50 x55 x56 x57 x58 x61 x62 x63 x64 x65 x66 ((IntKind.i64.wrap (x39 - (rde x38 x49))) != x50)) else (none)) else (none)) else (laws_FnJubileesCome.j9 k x38 x39 x45 x49 x50 x55 x56 x57 x58 x61 x62 x63 x64 x65 x66 true))) else (laws_FnJubileesCome.j10 k x55 x56 x57 x58 x61 x62 x63 x64 x65 x66)
def laws_FnJubileesCome.j9 : Nat → List Int → Int → List Int → Int → Int → List Int → Int → List Int → Bool → Int → Int → Int → Int → List Int → Bool → Bool → Option (Bool)
  | 0, _, _, _, _, _, _, _, _, _, _, _, _, _, _, _, _ => none
  | k + 1, x38, x39, x45, x49, x50, x55, x56, x57, x58, x61, x62, x63, x64, x65, x66, x646 => if x646 = true then (some false) else (laws_FnJubileesCome.l4 k x38 x39 x49 x50 x55 x56 x57 x58 x61 x62 x63 x64 x65 x66 x45 (x45.length : Int) 0)
def laws_FnJubileesCome.l4 : Nat → List Int → Int → Int → Int → List Int → Int → List Int → Bool → Int → Int → Int → Int → List Int → Bool → List Int → Int → Int → Option (Bool)
  | 0, _, _, _, _, _, _, _, _, _, _, _, _, _, _, _, _, _ => none
  | k + 1, x38, x39, x49, x50, x55, x56, x57, x58, x61, x62, x63, x64, x65, x66, x45, x648, x649 => if x649 < x648 then (if 0 ≤ x649 then (if x649 < (x45.length : Int) then (if 0 ≤ (rde x45 x649) then (if (rde x45 x649) < (x38.length : Int) then (if (IntKind.i64.wrap (x39 - (rde x38 (rde x45 x649)))) > x50 then (some false) else (if (IntKind.i64.wrap (x39 - (rde x38 (rde x45 x649)))) = x50 then (if (rde x45 x649) < x49 then (some false) else (laws_FnJubileesCome.l4 k x38 x39 x49 x50 x55 x56 x57 x58 x61 x62 x63 x64 x65 x66 x45 x648 (IntKind.i64.wrap (x649 + 1)))) else (laws_FnJubileesCome.l4 k x38 x39 x49 x50 x55 x56 x57 x58 x61 x62 x63 x64 x65 x66 x45 x648 (IntKind.i64.wrap (x649 + 1))))) else (none)) else (none)) else (none)) else (none)) else (laws_FnJubileesCome.j10 k x55 x56 x57 x58 x61 x62 x63 x64 x65 x66)
def laws_FnJubileesCome.j10 : Nat → List Int → Int → List Int → Bool → Int → Int → Int → Int → List Int → Bool → Option (Bool)
  | 0, _, _, _, _, _, _, _, _, _, _ => none
  | k + 1, x55, x56, x57, x58, x61, x62, x63, x64, x65, x66 => if x58 = true then ((laws_qRises.f k x57).bind fun y1 => (if y1 = true then (laws_FnJubileesCome.l5 k x55 x56 x61 x62 x63 x64 x65 x66 x57 (x57.length : Int) 0) else (some false))) else (laws_FnJubileesCome.j11 k x61 x62 x63 x64 x65 x66)
def laws_FnJubileesCome.l5 : Nat → List Int → Int → Int → Int → Int → Int → List Int → Bool → List Int → Int → Int → Option (Bool)
  | 0, _, _, _, _, _, _, _, _, _, _, _ => none
  | k + 1, x55, x56, x61, x62, x63, x64, x65, x66, x57, x678, x679 => if x679 < x678 then (if 0 ≤ x679 then (if x679 < (x57.length : Int) then ((impl_JubileesIn.f k x55 (rde x57 x679) x56).bind fun y3 => (if y3.2 = true then (if (y3.1.length : Int) = (x55.length : Int) then (laws_FnJubileesCome.l5 k x55 x56 x61 x62 x63 x64 x65 x66 x57 x678 (IntKind.i64.wrap (x679 + 1))) else (some false)) else (some false))) else (none)) else (none)) else (laws_FnJubileesCome.j11 k x61 x62 x63 x64 x65 x66)
def laws_FnJubileesCome.j11 : Nat → Int → Int → Int → Int → List Int → Bool → Option (Bool)
  | 0, _, _, _, _, _, _ => none
  | k + 1, x61, x62, x63, x64, x65, x66 => if x66 = true then (laws_FnJubileesCome.l6 k x61 x63 x64 x65 x62) else (some true)
def laws_FnJubileesCome.l6 : Nat → Int → Int → Int → List Int → Int → Option (Bool)
  | 0, _, _, _, _, _ => none
  | k + 1, x61, x63, x64, x65, x82 => if x82 ≤ x63 then ((laws_qHas.f k x65 x82).bind fun y2 => (if x82 > x61 then (if x64 = 0 then (none) else (if (y2 != (((IntKind.i64.wrap (x82 - x61)).tmod x64) == 0)) = true then (some false) else (laws_FnJubileesCome.l6 k x61 x63 x64 x65 (IntKind.i64.wrap (x82 + 1))))) else (if (y2 != false) = true then (some false) else (laws_FnJubileesCome.l6 k x61 x63 x64 x65 (IntKind.i64.wrap (x82 + 1)))))) else (some true)
end
def laws_FnJubileesCome.f (k : Nat) (x0 : List Int) (x1 : List Int) : Option (Bool) := (laws_big.f x0 x1).bind fun y1 => (if y1 = true then (some true) else ((spec_DrawCalendarOf.f k x0).bind fun y2 => ((impl_CalendarOf.f k y2.1 y2.2.1 y2.2.2.1 y2.2.2.2).bind fun y3 => ((spec_CalendarOf.f k y2.1 y2.2.1 y2.2.2.1 y2.2.2.2).bind fun y4 => ((impl_CountJubilees.f k y2.1 y2.2.1 y2.2.2.1 y2.2.2.2).bind fun y5 => ((spec_CountJubilees.f k y2.1 y2.2.1 y2.2.2.1 y2.2.2.2).bind fun y6 => ((impl_MostJubilees.f k y2.1 y2.2.1 y2.2.2.1 y2.2.2.2).bind fun y7 => ((spec_MostJubilees.f k y2.1 y2.2.1 y2.2.2.1 y2.2.2.2).bind fun y8 => ((impl_LongestQuiet.f k y2.1 y2.2.1 y2.2.2.1 y2.2.2.2).bind fun y9 => ((spec_LongestQuiet.f k y2.1 y2.2.1 y2.2.2.1 y2.2.2.2).bind fun y10 => (if (y3.2 != y4.2) = true then (laws_FnJubileesCome.j0 k x1 y2.1 y2.2.1 y2.2.2.1 y2.2.2.2 y3.1 y3.2 y5.1 y7.1 y7.2.1 y9.1 y9.2.1 y9.2.2 true) else ((laws_qRows.f k y3.1 y4.1).bind fun y58 => (if y58 = true then (if (y5.2 != y6.2) = true then (laws_FnJubileesCome.j0 k x1 y2.1 y2.2.1 y2.2.2.1 y2.2.2.2 y3.1 y3.2 y5.1 y7.1 y7.2.1 y9.1 y9.2.1 y9.2.2 true) else (if y5.1 = y6.1 then (if (y7.2.2 != y8.2.2) = true then (laws_FnJubileesCome.j0 k x1 y2.1 y2.2.1 y2.2.2.1 y2.2.2.2 y3.1 y3.2 y5.1 y7.1 y7.2.1 y9.1 y9.2.1 y9.2.2 true) else (if y7.1 = y8.1 then (if y7.2.1 = y8.2.1 then (if (y9.2.2 != y10.2.2) = true then (laws_FnJubileesCome.j0 k x1 y2.1 y2.2.1 y2.2.2.1 y2.2.2.2 y3.1 y3.2 y5.1 y7.1 y7.2.1 y9.1 y9.2.1 y9.2.2 true) else (if y9.1 = y10.1 then (if y9.2.1 = y10.2.1 then (if (y5.2 != y3.2) = true then (laws_FnJubileesCome.j0 k x1 y2.1 y2.2.1 y2.2.2.1 y2.2.2.2 y3.1 y3.2 y5.1 y7.1 y7.2.1 y9.1 y9.2.1 y9.2.2 true) else (if (y7.2.2 != y3.2) = true then (laws_FnJubileesCome.j0 k x1 y2.1 y2.2.1 y2.2.2.1 y2.2.2.2 y3.1 y3.2 y5.1 y7.1 y7.2.1 y9.1 y9.2.1 y9.2.2 true) else (if y3.2 = true then (if (y9.2.2 != (decide ((y3.1.length : Int) < (IntKind.i64.wrap ((IntKind.i64.wrap (y2.2.2.1 - y2.2.1)) + 1))))) = true then (laws_FnJubileesCome.j0 k x1 y2.1 y2.2.1 y2.2.2.1 y2.2.2.2 y3.1 y3.2 y5.1 y7.1 y7.2.1 y9.1 y9.2.1 y9.2.2 true) else ((impl_AreBirths.f y2.1).bind fun y87 => (if y87 = true then ((impl_AreBirths.f y2.1).bind fun y90 => ((spec_AreBirths.f k y2.1).bind fun y91 => (laws_FnJubileesCome.j0 k x1 y2.1 y2.2.1 y2.2.2.1 y2.2.2.2 y3.1 y3.2 y5.1 y7.1 y7.2.1 y9.1 y9.2.1 y9.2.2 ((y90 != y91))))) else (laws_FnJubileesCome.j0 k x1 y2.1 y2.2.1 y2.2.2.1 y2.2.2.2 y3.1 y3.2 y5.1 y7.1 y7.2.1 y9.1 y9.2.1 y9.2.2 true)))) else (if (y9.2.2 != false) = true then (laws_FnJubileesCome.j0 k x1 y2.1 y2.2.1 y2.2.2.1 y2.2.2.2 y3.1 y3.2 y5.1 y7.1 y7.2.1 y9.1 y9.2.1 y9.2.2 true) else ((impl_AreBirths.f y2.1).bind fun y107 => ((spec_AreBirths.f k y2.1).bind fun y108 => (laws_FnJubileesCome.j0 k x1 y2.1 y2.2.1 y2.2.2.1 y2.2.2.2 y3.1 y3.2 y5.1 y7.1 y7.2.1 y9.1 y9.2.1 y9.2.2 ((y107 != y108))))))))) else (laws_FnJubileesCome.j0 k x1 y2.1 y2.2.1 y2.2.2.1 y2.2.2.2 y3.1 y3.2 y5.1 y7.1 y7.2.1 y9.1 y9.2.1 y9.2.2 true)) else (laws_FnJubileesCome.j0 k x1 y2.1 y2.2.1 y2.2.2.1 y2.2.2.2 y3.1 y3.2 y5.1 y7.1 y7.2.1 y9.1 y9.2.1 y9.2.2 true))) else (laws_FnJubileesCome.j0 k x1 y2.1 y2.2.1 y2.2.2.1 y2.2.2.2 y3.1 y3.2 y5.1 y7.1 y7.2.1 y9.1 y9.2.1 y9.2.2 true)) else (laws_FnJubileesCome.j0 k x1 y2.1 y2.2.1 y2.2.2.1 y2.2.2.2 y3.1 y3.2 y5.1 y7.1 y7.2.1 y9.1 y9.2.1 y9.2.2 true))) else (laws_FnJubileesCome.j0 k x1 y2.1 y2.2.1 y2.2.2.1 y2.2.2.2 y3.1 y3.2 y5.1 y7.1 y7.2.1 y9.1 y9.2.1 y9.2.2 true))) else (laws_FnJubileesCome.j0 k x1 y2.1 y2.2.1 y2.2.2.1 y2.2.2.2 y3.1 y3.2 y5.1 y7.1 y7.2.1 y9.1 y9.2.1 y9.2.2 true))))))))))))))
theorem laws_FnJubileesCome.br_l : ∀ k, (∀ (x1 : List Int) (x5 : List Int) (x6 : Int) (x7 : Int) (x8 : Int) (x9 : List (List Int)) (x10 : Bool) (x13 : Int) (x17 : Int) (x18 : Int) (x23 : Int) (x24 : Int) (x25 : Bool) (x248 : Bool), LeO (laws_FnJubileesCome.j0 k x1 x5 x6 x7 x8 x9 x10 x13 x17 x18 x23 x24 x25 x248) (S.laws_FnJubileesCome.j0 x1 x5 x6 x7 x8 x9 x10 x13 x17 x18 x23 x24 x25 x248)) ∧ (∀ (x1 : List Int) (x5 : List Int) (x6 : Int) (x7 : Int) (x8 : Int) (x9 : List (List Int)) (x13 : Int) (x17 : Int) (x18 : Int) (x23 : Int) (x24 : Int) (x25 : Bool) (x29 : Int) (x30 : Int) (x31 : Int) (x32 : Int), LeO (laws_FnJubileesCome.l0 k x1 x5 x6 x7 x8 x9 x13 x17 x18 x23 x24 x25 x29 x30 x31 x32) (S.laws_FnJubileesCome.l0 x1 x5 x6 x7 x8 x9 x13 x17 x18 x23 x24 x25 x29 x30 x31 x32)) ∧ (∀ (x1 : List Int) (x5 : List Int) (x6 : Int) (x7 : Int) (x8 : Int) (x9 : List (List Int)) (x13 : Int) (x17 : Int) (x18 : Int) (x23 : Int) (x24 : Int) (x25 : Bool) (x29 : Int) (x30 : Int) (x31 : Int) (x32 : Int) (x33 : List Int) (x297 : Bool), LeO (laws_FnJubileesCome.j1 k x1 x5 x6 x7 x8 x9 x13 x17 x18 x23 x24 x25 x29 x30 x31 x32 x33 x297) (S.laws_FnJubileesCome.j1 x1 x5 x6 x7 x8 x9 x13 x17 x18 x23 x24 x25 x29 x30 x31 x32 x33 x297)) ∧ (∀ (x1 : List Int) (x5 : List Int) (x6 : Int) (x7 : Int) (x8 : Int) (x9 : List (List Int)) (x13 : Int) (x17 : Int) (x18 : Int) (x23 : Int) (x24 : Int) (x25 : Bool) (x29 : Int) (x30 : Int) (x32 : Int) (x341 : Bool), LeO (laws_FnJubileesCome.j2 k x1 x5 x6 x7 x8 x9 x13 x17 x18 x23 x24 x25 x29 x30 x32 x341) (S.laws_FnJubileesCome.j2 x1 x5 x6 x7 x8 x9 x13 x17 x18 x23 x24 x25 x29 x30 x32 x341)) ∧ (∀ (x1 : List Int) (x5 : List Int) (x6 : Int) (x7 : Int) (x8 : Int) (x23 : Int) (x24 : Int) (x25 : Bool) (x372 : Bool), LeO (laws_FnJubileesCome.j3 k x1 x5 x6 x7 x8 x23 x24 x25 x372) (S.laws_FnJubileesCome.j3 x1 x5 x6 x7 x8 x23 x24 x25 x372)) ∧ (∀ (x1 : List Int) (x5 : List Int) (x6 : Int) (x7 : Int) (x8 : Int) (x23 : Int) (x24 : Int) (x35 : Int), LeO (laws_FnJubileesCome.l1 k x1 x5 x6 x7 x8 x23 x24 x35) (S.laws_FnJubileesCome.l1 x1 x5 x6 x7 x8 x23 x24 x35)) ∧ (∀ (x1 : List Int), LeO (laws_FnJubileesCome.j4 k x1) (S.laws_FnJubileesCome.j4 x1)) ∧ (∀ (x38 : List Int) (x39 : Int) (x40 : Int) (x41 : Int) (x42 : Bool) (x45 : List Int) (x46 : Bool) (x49 : Int) (x50 : Int) (x51 : Bool) (x55 : List Int) (x56 : Int) (x57 : List Int) (x58 : Bool) (x61 : Int) (x62 : Int) (x63 : Int) (x64 : Int) (x65 : List Int) (x66 : Bool) (x568 : Bool), LeO (laws_FnJubileesCome.j5 k x38 x39 x40 x41 x42 x45 x46 x49 x50 x51 x55 x56 x57 x58 x61 x62 x63 x64 x65 x66 x568) (S.laws_FnJubileesCome.j5 x38 x39 x40 x41 x42 x45 x46 x49 x50 x51 x55 x56 x57 x58 x61 x62 x63 x64 x65 x66 x568)) ∧ (∀ (x38 : List Int) (x39 : Int) (x40 : Int) (x41 : Int) (x42 : Bool) (x45 : List Int) (x49 : Int) (x50 : Int) (x51 : Bool) (x55 : List Int) (x56 : Int) (x57 : List Int) (x58 : Bool) (x61 : Int) (x62 : Int) (x63 : Int) (x64 : Int) (x65 : List Int) (x66 : Bool) (x571 : Int) (x572 : Int), LeO (laws_FnJubileesCome.l2 k x39 x40 x41 x42 x45 x49 x50 x51 x55 x56 x57 x58 x61 x62 x63 x64 x65 x66 x38 x571 x572) (S.laws_FnJubileesCome.l2 x38 x39 x40 x41 x42 x45 x49 x50 x51 x55 x56 x57 x58 x61 x62 x63 x64 x65 x66 x571 x572)) ∧ (∀ (x38 : List Int) (x39 : Int) (x40 : Int) (x41 : Int) (x42 : Bool) (x45 : List Int) (x49 : Int) (x50 : Int) (x51 : Bool) (x55 : List Int) (x56 : Int) (x57 : List Int) (x58 : Bool) (x61 : Int) (x62 : Int) (x63 : Int) (x64 : Int) (x65 : List Int) (x66 : Bool), LeO (laws_FnJubileesCome.j6 k x38 x39 x40 x41 x42 x45 x49 x50 x51 x55 x56 x57 x58 x61 x62 x63 x64 x65 x66) (S.laws_FnJubileesCome.j6 x38 x39 x40 x41 x42 x45 x49 x50 x51 x55 x56 x57 x58 x61 x62 x63 x64 x65 x66)) ∧ (∀ (x38 : List Int) (x39 : Int) (x40 : Int) (x41 : Int) (x45 : List Int) (x49 : Int) (x50 : Int) (x51 : Bool) (x55 : List Int) (x56 : Int) (x57 : List Int) (x58 : Bool) (x61 : Int) (x62 : Int) (x63 : Int) (x64 : Int) (x65 : List Int) (x66 : Bool) (x72 : Int), LeO (laws_FnJubileesCome.l3 k x38 x39 x40 x41 x45 x49 x50 x51 x55 x56 x57 x58 x61 x62 x63 x64 x65 x66 x72) (S.laws_FnJubileesCome.l3 x38 x39 x40 x41 x45 x49 x50 x51 x55 x56 x57 x58 x61 x62 x63 x64 x65 x66 x72)) ∧ (∀ (x38 : List Int) (x39 : Int) (x40 : Int) (x41 : Int) (x45 : List Int) (x49 : Int) (x50 : Int) (x51 : Bool) (x55 : List Int) (x56 : Int) (x57 : List Int) (x58 : Bool) (x61 : Int) (x62 : Int) (x63 : Int) (x64 : Int) (x65 : List Int) (x66 : Bool) (x72 : Int) (x611 : Bool), LeO (laws_FnJubileesCome.j7 k x38 x39 x40 x41 x45 x49 x50 x51 x55 x56 x57 x58 x61 x62 x63 x64 x65 x66 x72 x611) (S.laws_FnJubileesCome.j7 x38 x39 x40 x41 x45 x49 x50 x51 x55 x56 x57 x58 x61 x62 x63 x64 x65 x66 x72 x611)) ∧ (∀ (x38 : List Int) (x39 : Int) (x45 : List Int) (x49 : Int) (x50 : Int) (x51 : Bool) (x55 : List Int) (x56 : Int) (x57 : List Int) (x58 : Bool) (x61 : Int) (x62 : Int) (x63 : Int) (x64 : Int) (x65 : List Int) (x66 : Bool), LeO (laws_FnJubileesCome.j8 k x38 x39 x45 x49 x50 x51 x55 x56 x57 x58 x61 x62 x63 x64 x65 x66) (S.laws_FnJubileesCome.j8 x38 x39 x45 x49 x50 x51 x55 x56 x57 x58 x61 x62 x63 x64 x65 x66)) ∧ (∀ (x38 : List Int) (x39 : Int) (x45 : List Int) (x49 : Int) (x50 : Int) (x55 : List Int) (x56 : Int) (x57 : List Int) (x58 : Bool) (x61 : Int) (x62 : Int) (x63 : Int) (x64 : Int) (x65 : List Int) (x66 : Bool) (x646 : Bool), LeO (laws_FnJubileesCome.j9 k x38 x39 x45 x49 x50 x55 x56 x57 x58 x61 x62 x63 x64 x65 x66 x646) (S.laws_FnJubileesCome.j9 x38 x39 x45 x49 x50 x55 x56 x57 x58 x61 x62 x63 x64 x65 x66 x646)) ∧ (∀ (x38 : List Int) (x39 : Int) (x45 : List Int) (x49 : Int) (x50 : Int) (x55 : List Int) (x56 : Int) (x57 : List Int) (x58 : Bool) (x61 : Int) (x62 : Int) (x63 : Int) (x64 : Int) (x65 : List Int) (x66 : Bool) (x648 : Int) (x649 : Int), LeO (laws_FnJubileesCome.l4 k x38 x39 x49 x50 x55 x56 x57 x58 x61 x62 x63 x64 x65 x66 x45 x648 x649) (S.laws_FnJubileesCome.l4 x38 x39 x45 x49 x50 x55 x56 x57 x58 x61 x62 x63 x64 x65 x66 x648 x649)) ∧ (∀ (x55 : List Int) (x56 : Int) (x57 : List Int) (x58 : Bool) (x61 : Int) (x62 : Int) (x63 : Int) (x64 : Int) (x65 : List Int) (x66 : Bool), LeO (laws_FnJubileesCome.j10 k x55 x56 x57 x58 x61 x62 x63 x64 x65 x66) (S.laws_FnJubileesCome.j10 x55 x56 x57 x58 x61 x62 x63 x64 x65 x66)) ∧ (∀ (x55 : List Int) (x56 : Int) (x57 : List Int) (x61 : Int) (x62 : Int) (x63 : Int) (x64 : Int) (x65 : List Int) (x66 : Bool) (x678 : Int) (x679 : Int), LeO (laws_FnJubileesCome.l5 k x55 x56 x61 x62 x63 x64 x65 x66 x57 x678 x679) (S.laws_FnJubileesCome.l5 x55 x56 x57 x61 x62 x63 x64 x65 x66 x678 x679)) ∧ (∀ (x61 : Int) (x62 : Int) (x63 : Int) (x64 : Int) (x65 : List Int) (x66 : Bool), LeO (laws_FnJubileesCome.j11 k x61 x62 x63 x64 x65 x66) (S.laws_FnJubileesCome.j11 x61 x62 x63 x64 x65 x66)) ∧ (∀ (x61 : Int) (x63 : Int) (x64 : Int) (x65 : List Int) (x82 : Int), LeO (laws_FnJubileesCome.l6 k x61 x63 x64 x65 x82) (S.laws_FnJubileesCome.l6 x61 x63 x64 x65 x82))
  | 0 => ⟨fun _ _ _ _ _ _ _ _ _ _ _ _ _ _ => LeO.none _, fun _ _ _ _ _ _ _ _ _ _ _ _ _ _ _ _ => LeO.none _, fun _ _ _ _ _ _ _ _ _ _ _ _ _ _ _ _ _ _ => LeO.none _, fun _ _ _ _ _ _ _ _ _ _ _ _ _ _ _ _ => LeO.none _, fun _ _ _ _ _ _ _ _ _ => LeO.none _, fun _ _ _ _ _ _ _ _ => LeO.none _, fun _ => LeO.none _, fun _ _ _ _ _ _ _ _ _ _ _ _ _ _ _ _ _ _ _ _ _ => LeO.none _, fun _ _ _ _ _ _ _ _ _ _ _ _ _ _ _ _ _ _ _ _ _ => LeO.none _, fun _ _ _ _ _ _ _ _ _ _ _ _ _ _ _ _ _ _ _ => LeO.none _, fun _ _ _ _ _ _ _ _ _ _ _ _ _ _ _ _ _ _ _ => LeO.none _, fun _ _ _ _ _ _ _ _ _ _ _ _ _ _ _ _ _ _ _ _ => LeO.none _, fun _ _ _ _ _ _ _ _ _ _ _ _ _ _ _ _ => LeO.none _, fun _ _ _ _ _ _ _ _ _ _ _ _ _ _ _ _ => LeO.none _, fun _ _ _ _ _ _ _ _ _ _ _ _ _ _ _ _ _ => LeO.none _, fun _ _ _ _ _ _ _ _ _ _ => LeO.none _, fun _ _ _ _ _ _ _ _ _ _ _ => LeO.none _, fun _ _ _ _ _ _ => LeO.none _, fun _ _ _ _ _ => LeO.none _⟩
  | k + 1 => by
    have ih := laws_FnJubileesCome.br_l k
    obtain ⟨ih_j0, ih_l0, ih_j1, ih_j2, ih_j3, ih_l1, ih_j4, ih_j5, ih_l2, ih_j6, ih_l3, ih_j7, ih_j8, ih_j9, ih_l4, ih_j10, ih_l5, ih_j11, ih_l6⟩ := ih
    refine ⟨fun x1 x5 x6 x7 x8 x9 x10 x13 x17 x18 x23 x24 x25 x248 => ?_, fun x1 x5 x6 x7 x8 x9 x13 x17 x18 x23 x24 x25 x29 x30 x31 x32 => ?_, fun x1 x5 x6 x7 x8 x9 x13 x17 x18 x23 x24 x25 x29 x30 x31 x32 x33 x297 => ?_, fun x1 x5 x6 x7 x8 x9 x13 x17 x18 x23 x24 x25 x29 x30 x32 x341 => ?_, fun x1 x5 x6 x7 x8 x23 x24 x25 x372 => ?_, fun x1 x5 x6 x7 x8 x23 x24 x35 => ?_, fun x1 => ?_, fun x38 x39 x40 x41 x42 x45 x46 x49 x50 x51 x55 x56 x57 x58 x61 x62 x63 x64 x65 x66 x568 => ?_, fun x38 x39 x40 x41 x42 x45 x49 x50 x51 x55 x56 x57 x58 x61 x62 x63 x64 x65 x66 x571 x572 => ?_, fun x38 x39 x40 x41 x42 x45 x49 x50 x51 x55 x56 x57 x58 x61 x62 x63 x64 x65 x66 => ?_, fun x38 x39 x40 x41 x45 x49 x50 x51 x55 x56 x57 x58 x61 x62 x63 x64 x65 x66 x72 => ?_, fun x38 x39 x40 x41 x45 x49 x50 x51 x55 x56 x57 x58 x61 x62 x63 x64 x65 x66 x72 x611 => ?_, fun x38 x39 x45 x49 x50 x51 x55 x56 x57 x58 x61 x62 x63 x64 x65 x66 => ?_, fun x38 x39 x45 x49 x50 x55 x56 x57 x58 x61 x62 x63 x64 x65 x66 x646 => ?_, fun x38 x39 x45 x49 x50 x55 x56 x57 x58 x61 x62 x63 x64 x65 x66 x648 x649 => ?_, fun x55 x56 x57 x58 x61 x62 x63 x64 x65 x66 => ?_, fun x55 x56 x57 x61 x62 x63 x64 x65 x66 x678 x679 => ?_, fun x61 x62 x63 x64 x65 x66 => ?_, fun x61 x63 x64 x65 x82 => ?_⟩
    · refine LeO.of (S.laws_FnJubileesCome.j0.eq _ _ _ _ _ _ _ _ _ _ _ _ _ _) ?_
      unfold laws_FnJubileesCome.j0
      exact (LeO.ite' (fun h0 => LeO.refl _) (fun h0 => (LeO.ite' (fun h1 => (ih_l0 _ _ _ _ _ _ _ _ _ _ _ _ _ _ _ _)) (fun h1 => (ih_j4 _)))))
    · refine LeO.of (S.laws_FnJubileesCome.l0.eq _ _ _ _ _ _ _ _ _ _ _ _ _ _ _ _) ?_
      unfold laws_FnJubileesCome.l0
      exact (LeO.dec (fun h0 => (LeO.bind (impl_JubileesIn.f.br k _ _ _) (fun y2 => (LeO.nob (fun h1 => (LeO.bind (laws_qRises.f.br k _) (fun y34 => (LeO.nob (fun h2 => (LeO.dec (fun h3 => (ih_j1 _ _ _ _ _ _ _ _ _ _ _ _ _ _ _ _ _ _)) (fun h3 => (LeO.beq (fun h4 => (LeO.dec (fun h5 => (ih_j1 _ _ _ _ _ _ _ _ _ _ _ _ _ _ _ _ _ _)) (fun h5 => (LeO.beq (fun h6 => (ih_j1 _ _ _ _ _ _ _ _ _ _ _ _ _ _ _ _ _ _)) (fun h6 => (ih_j1 _ _ _ _ _ _ _ _ _ _ _ _ _ _ _ _ _ _)))))) (fun h4 => (LeO.beq (fun h5 => (ih_j1 _ _ _ _ _ _ _ _ _ _ _ _ _ _ _ _ _ _)) (fun h5 => (ih_j1 _ _ _ _ _ _ _ _ _ _ _ _ _ _ _ _ _ _)))))))) (fun h2 => (ih_j1 _ _ _ _ _ _ _ _ _ _ _ _ _ _ _ _ _ _)))))) (fun h1 => (ih_j1 _ _ _ _ _ _ _ _ _ _ _ _ _ _ _ _ _ _)))))) (fun h0 => (LeO.bne (fun h1 => (ih_j3 _ _ _ _ _ _ _ _ _)) (fun h1 => (ih_j3 _ _ _ _ _ _ _ _ _)))))
    · refine LeO.of (S.laws_FnJubileesCome.j1.eq _ _ _ _ _ _ _ _ _ _ _ _ _ _ _ _ _ _) ?_
      unfold laws_FnJubileesCome.j1
      exact (LeO.ite' (fun h0 => LeO.refl _) (fun h0 => (LeO.dec (fun h1 => (LeO.dec (fun h2 => (ih_j2 _ _ _ _ _ _ _ _ _ _ _ _ _ _ _ _)) (fun h2 => (LeO.tst fun h3 => (LeO.tst fun h4 => (LeO.rdI h3 h4 (LeO.bne (fun h5 => (LeO.rdI h3 h4 (LeO.tst fun h7 => (LeO.rdI (by decide) h7 (LeO.bne (fun h8 => (LeO.rdI h3 h4 (LeO.bind (LeO.refl _) (fun y19 => (LeO.bind (laws_qSame.f.br k _ _) (fun y20 => (ih_j2 _ _ _ _ _ _ _ _ _ _ _ _ _ _ _ _))))))) (fun h8 => (ih_j2 _ _ _ _ _ _ _ _ _ _ _ _ _ _ _ _))))))) (fun h5 => (ih_j2 _ _ _ _ _ _ _ _ _ _ _ _ _ _ _ _))))))))) (fun h1 => (LeO.dec (fun h2 => LeO.refl _) (fun h2 => (LeO.beq (fun h3 => (LeO.dec (fun h4 => (LeO.dec (fun h5 => LeO.refl _) (fun h5 => (ih_l0 _ _ _ _ _ _ _ _ _ _ _ _ _ _ _ _)))) (fun h4 => (ih_l0 _ _ _ _ _ _ _ _ _ _ _ _ _ _ _ _)))) (fun h3 => (ih_l0 _ _ _ _ _ _ _ _ _ _ _ _ _ _ _ _)))))))))
    · refine LeO.of (S.laws_FnJubileesCome.j2.eq _ _ _ _ _ _ _ _ _ _ _ _ _ _ _ _) ?_
      unfold laws_FnJubileesCome.j2
      exact (LeO.ite' (fun h0 => LeO.refl _) (fun h0 => (LeO.dec (fun h1 => LeO.refl _) (fun h1 => (LeO.beq (fun h2 => (ih_l0 _ _ _ _ _ _ _ _ _ _ _ _ _ _ _ _)) (fun h2 => (ih_l0 _ _ _ _ _ _ _ _ _ _ _ _ _ _ _ _)))))))
    · refine LeO.of (S.laws_FnJubileesCome.j3.eq _ _ _ _ _ _ _ _ _) ?_
      unfold laws_FnJubileesCome.j3
      exact (LeO.ite' (fun h0 => LeO.refl _) (fun h0 => (LeO.ite' (fun h1 => (ih_l1 _ _ _ _ _ _ _ _)) (fun h1 => (ih_j4 _)))))
    · refine LeO.of (S.laws_FnJubileesCome.l1.eq _ _ _ _ _ _ _ _) ?_
      unfold laws_FnJubileesCome.l1
      exact (LeO.dec (fun h0 => (LeO.bind (impl_JubileesIn.f.br k _ _ _) (fun y3 => (LeO.dec (fun h1 => LeO.refl _) (fun h1 => (LeO.dec (fun h2 => LeO.refl _) (fun h2 => (LeO.nob (fun h3 => (LeO.bne (fun h4 => (ih_l1 _ _ _ _ _ _ _ _)) (fun h4 => LeO.refl _))) (fun h3 => LeO.refl _))))))))) (fun h0 => (ih_j4 _)))
    · refine LeO.of (S.laws_FnJubileesCome.j4.eq _) ?_
      unfold laws_FnJubileesCome.j4
      exact (LeO.bind (spec_DrawNextJubilee.f.br k _) (fun y1 => (LeO.bind (impl_NextJubilee.f.br k _ _ _) (fun y2 => (LeO.bind (spec_NextJubilee.f.br k _ _ _) (fun y3 => (LeO.bind (impl_JubileesIn.f.br k _ _ _) (fun y4 => (LeO.bind (spec_JubileesIn.f.br k _ _ _) (fun y5 => (LeO.bind (impl_OldestRound.f.br k _ _ _) (fun y6 => (LeO.bind (spec_OldestRound.f.br k _ _ _) (fun y7 => (LeO.bind (spec_DrawTogetherJubilees.f.br k _) (fun y8 => (LeO.bind (impl_TogetherJubilees.f.br k _ _) (fun y9 => (LeO.bind (spec_TogetherJubilees.f.br k _ _) (fun y10 => (LeO.bind (spec_DrawAnniversaries.f.br _) (fun y11 => (LeO.bind (impl_Anniversaries.f.br k _ _ _ _) (fun y14 => (LeO.bind (spec_Anniversaries.f.br k _ _ _ _) (fun y15 => (LeO.ite' (fun h0 => (ih_j5 _ _ _ _ _ _ _ _ _ _ _ _ _ _ _ _ _ _ _ _ _)) (fun h0 => (LeO.bne (fun h1 => (LeO.ite' (fun h2 => (ih_j5 _ _ _ _ _ _ _ _ _ _ _ _ _ _ _ _ _ _ _ _ _)) (fun h2 => (LeO.bind (laws_qSame.f.br k _ _) (fun y21 => (LeO.nob (fun h3 => (LeO.ite' (fun h4 => (ih_j5 _ _ _ _ _ _ _ _ _ _ _ _ _ _ _ _ _ _ _ _ _)) (fun h4 => (LeO.bne (fun h5 => (LeO.bne (fun h6 => (LeO.ite' (fun h7 => (ih_j5 _ _ _ _ _ _ _ _ _ _ _ _ _ _ _ _ _ _ _ _ _)) (fun h7 => (LeO.bind (laws_qSame.f.br k _ _) (fun y31 => (LeO.nob (fun h8 => (LeO.ite' (fun h9 => (ih_j5 _ _ _ _ _ _ _ _ _ _ _ _ _ _ _ _ _ _ _ _ _)) (fun h9 => (LeO.bind (laws_qSame.f.br k _ _) (fun y35 => (LeO.nob (fun h10 => (LeO.ite' (fun h11 => (LeO.ite' (fun h12 => (ih_j5 _ _ _ _ _ _ _ _ _ _ _ _ _ _ _ _ _ _ _ _ _)) (fun h12 => (LeO.ite' (fun h13 => (ih_j5 _ _ _ _ _ _ _ _ _ _ _ _ _ _ _ _ _ _ _ _ _)) (fun h13 => (ih_j5 _ _ _ _ _ _ _ _ _ _ _ _ _ _ _ _ _ _ _ _ _)))))) (fun h11 => (LeO.ite' (fun h12 => (ih_j5 _ _ _ _ _ _ _ _ _ _ _ _ _ _ _ _ _ _ _ _ _)) (fun h12 => (LeO.ite' (fun h13 => (ih_j5 _ _ _ _ _ _ _ _ _ _ _ _ _ _ _ _ _ _ _ _ _)) (fun h13 => (ih_j5 _ _ _ _ _ _ _ _ _ _ _ _ _ _ _ _ _ _ _ _ _)))))))) (fun h10 => (ih_j5 _ _ _ _ _ _ _ _ _ _ _ _ _ _ _ _ _ _ _ _ _)))))))) (fun h8 => (ih_j5 _ _ _ _ _ _ _ _ _ _ _ _ _ _ _ _ _ _ _ _ _)))))))) (fun h6 => (ih_j5 _ _ _ _ _ _ _ _ _ _ _ _ _ _ _ _ _ _ _ _ _)))) (fun h5 => (ih_j5 _ _ _ _ _ _ _ _ _ _ _ _ _ _ _ _ _ _ _ _ _)))))) (fun h3 => (ih_j5 _ _ _ _ _ _ _ _ _ _ _ _ _ _ _ _ _ _ _ _ _)))))))) (fun h1 => (ih_j5 _ _ _ _ _ _ _ _ _ _ _ _ _ _ _ _ _ _ _ _ _)))))))))))))))))))))))))))))))
    · refine LeO.of (S.laws_FnJubileesCome.j5.eq _ _ _ _ _ _ _ _ _ _ _ _ _ _ _ _ _ _ _ _ _) ?_
      unfold laws_FnJubileesCome.j5
      exact (LeO.ite' (fun h0 => LeO.refl _) (fun h0 => (LeO.ite' (fun h1 => (ih_l2 _ _ _ _ _ _ _ _ _ _ _ _ _ _ _ _ _ _ _ _ _)) (fun h1 => (ih_j6 _ _ _ _ _ _ _ _ _ _ _ _ _ _ _ _ _ _ _)))))
    · refine LeO.of (S.laws_FnJubileesCome.l2.eq _ _ _ _ _ _ _ _ _ _ _ _ _ _ _ _ _ _ _ _ _) ?_
      unfold laws_FnJubileesCome.l2
      exact (LeO.dec (fun h0 => (LeO.tst fun h1 => (LeO.tst fun h2 => (LeO.rdI h1 h2 (LeO.bind (laws_qHas.f.br k _ _) (fun y4 => (LeO.dec (fun h3 => (LeO.dec (fun h4 => (LeO.ite (LeO.none _) (LeO.ite' (fun h5 => LeO.refl _) (fun h5 => (ih_l2 _ _ _ _ _ _ _ _ _ _ _ _ _ _ _ _ _ _ _ _ _))))) (fun h4 => (LeO.ite' (fun h5 => LeO.refl _) (fun h5 => (ih_l2 _ _ _ _ _ _ _ _ _ _ _ _ _ _ _ _ _ _ _ _ _)))))) (fun h3 => (LeO.ite' (fun h4 => LeO.refl _) (fun h4 => (ih_l2 _ _ _ _ _ _ _ _ _ _ _ _ _ _ _ _ _ _ _ _ _))))))))))) (fun h0 => (ih_j6 _ _ _ _ _ _ _ _ _ _ _ _ _ _ _ _ _ _ _)))
    · refine LeO.of (S.laws_FnJubileesCome.j6.eq _ _ _ _ _ _ _ _ _ _ _ _ _ _ _ _ _ _ _) ?_
      unfold laws_FnJubileesCome.j6
      exact (LeO.ite' (fun h0 => (LeO.dec (fun h1 => LeO.refl _) (fun h1 => (ih_l3 _ _ _ _ _ _ _ _ _ _ _ _ _ _ _ _ _ _ _)))) (fun h0 => (ih_j8 _ _ _ _ _ _ _ _ _ _ _ _ _ _ _ _)))
    · refine LeO.of (S.laws_FnJubileesCome.l3.eq _ _ _ _ _ _ _ _ _ _ _ _ _ _ _ _ _ _ _) ?_
      unfold laws_FnJubileesCome.l3
      exact (LeO.dec (fun h0 => (ih_j7 _ _ _ _ _ _ _ _ _ _ _ _ _ _ _ _ _ _ _ _)) (fun h0 => (ih_j7 _ _ _ _ _ _ _ _ _ _ _ _ _ _ _ _ _ _ _ _)))
    · refine LeO.of (S.laws_FnJubileesCome.j7.eq _ _ _ _ _ _ _ _ _ _ _ _ _ _ _ _ _ _ _ _) ?_
      unfold laws_FnJubileesCome.j7
      exact (LeO.ite' (fun h0 => (LeO.bind (impl_JubileesIn.f.br k _ _ _) (fun y1 => (LeO.nob (fun h1 => (LeO.ite' (fun h2 => LeO.refl _) (fun h2 => (ih_l3 _ _ _ _ _ _ _ _ _ _ _ _ _ _ _ _ _ _ _)))) (fun h1 => LeO.refl _))))) (fun h0 => (ih_j8 _ _ _ _ _ _ _ _ _ _ _ _ _ _ _ _)))
    · refine LeO.of (S.laws_FnJubileesCome.j8.eq _ _ _ _ _ _ _ _ _ _ _ _ _ _ _ _) ?_
      unfold laws_FnJubileesCome.j8
      exact (LeO.ite' (fun h0 => (LeO.bind (laws_qHas.f.br k _ _) (fun y1 => (LeO.nob (fun h1 => (LeO.tst fun h2 => (LeO.tst fun h3 => (LeO.rdI h2 h3 (ih_j9 _ _ _ _ _ _ _ _ _ _ _ _ _ _ _ _))))) (fun h1 => (ih_j9 _ _ _ _ _ _ _ _ _ _ _ _ _ _ _ _)))))) (fun h0 => (ih_j10 _ _ _ _ _ _ _ _ _ _)))
    · refine LeO.of (S.laws_FnJubileesCome.j9.eq _ _ _ _ _ _ _ _ _ _ _ _ _ _ _ _) ?_
      unfold laws_FnJubileesCome.j9
      exact (LeO.ite' (fun h0 => LeO.refl _) (fun h0 => (ih_l4 _ _ _ _ _ _ _ _ _ _ _ _ _ _ _ _ _)))
    · refine LeO.of (S.laws_FnJubileesCome.l4.eq _ _ _ _ _ _ _ _ _ _ _ _ _ _ _ _ _) ?_
      unfold laws_FnJubileesCome.l4
      exact (LeO.dec (fun h0 => (LeO.tst fun h1 => (LeO.tst fun h2 => (LeO.rdI h1 h2 (LeO.tst fun h3 => (LeO.tst fun h4 => (LeO.rdI h3 h4 (LeO.dec (fun h5 => LeO.refl _) (fun h5 => (LeO.beq (fun h6 => (LeO.dec (fun h7 => LeO.refl _) (fun h7 => (ih_l4 _ _ _ _ _ _ _ _ _ _ _ _ _ _ _ _ _)))) (fun h6 => (ih_l4 _ _ _ _ _ _ _ _ _ _ _ _ _ _ _ _ _)))))))))))) (fun h0 => (ih_j10 _ _ _ _ _ _ _ _ _ _)))
    · refine LeO.of (S.laws_FnJubileesCome.j10.eq _ _ _ _ _ _ _ _ _ _) ?_
      unfold laws_FnJubileesCome.j10
      exact (LeO.ite' (fun h0 => (LeO.bind (laws_qRises.f.br k _) (fun y1 => (LeO.nob (fun h1 => (ih_l5 _ _ _ _ _ _ _ _ _ _ _)) (fun h1 => LeO.refl _))))) (fun h0 => (ih_j11 _ _ _ _ _ _)))
    · refine LeO.of (S.laws_FnJubileesCome.l5.eq _ _ _ _ _ _ _ _ _ _ _) ?_
      unfold laws_FnJubileesCome.l5
      exact (LeO.dec (fun h0 => (LeO.tst fun h1 => (LeO.tst fun h2 => (LeO.rdI h1 h2 (LeO.bind (impl_JubileesIn.f.br k _ _ _) (fun y3 => (LeO.nob (fun h3 => (LeO.bne (fun h4 => (ih_l5 _ _ _ _ _ _ _ _ _ _ _)) (fun h4 => LeO.refl _))) (fun h3 => LeO.refl _)))))))) (fun h0 => (ih_j11 _ _ _ _ _ _)))
    · refine LeO.of (S.laws_FnJubileesCome.j11.eq _ _ _ _ _ _) ?_
      unfold laws_FnJubileesCome.j11
      exact (LeO.ite' (fun h0 => (ih_l6 _ _ _ _ _)) (fun h0 => LeO.refl _))
    · refine LeO.of (S.laws_FnJubileesCome.l6.eq _ _ _ _ _) ?_
      unfold laws_FnJubileesCome.l6
      exact (LeO.dec (fun h0 => (LeO.bind (laws_qHas.f.br k _ _) (fun y2 => (LeO.dec (fun h1 => (LeO.ite (LeO.none _) (LeO.ite' (fun h2 => LeO.refl _) (fun h2 => (ih_l6 _ _ _ _ _))))) (fun h1 => (LeO.ite' (fun h2 => LeO.refl _) (fun h2 => (ih_l6 _ _ _ _ _)))))))) (fun h0 => LeO.refl _))
theorem laws_FnJubileesCome.f.br (k : Nat) (x0 : List Int) (x1 : List Int) : LeO (laws_FnJubileesCome.f k x0 x1) (S.laws_FnJubileesCome.f x0 x1) := by
  refine LeO.of (S.laws_FnJubileesCome.f.eq _ _) ?_
  unfold laws_FnJubileesCome.f
  have ih_j0 := (laws_FnJubileesCome.br_l k).1
  exact (LeO.bind (laws_big.f.br _ _) (fun y1 => (LeO.ite' (fun h0 => LeO.refl _) (fun h0 => (LeO.bind (spec_DrawCalendarOf.f.br k _) (fun y2 => (LeO.bind (impl_CalendarOf.f.br k _ _ _ _) (fun y3 => (LeO.bind (spec_CalendarOf.f.br k _ _ _ _) (fun y4 => (LeO.bind (impl_CountJubilees.f.br k _ _ _ _) (fun y5 => (LeO.bind (spec_CountJubilees.f.br k _ _ _ _) (fun y6 => (LeO.bind (impl_MostJubilees.f.br k _ _ _ _) (fun y7 => (LeO.bind (spec_MostJubilees.f.br k _ _ _ _) (fun y8 => (LeO.bind (impl_LongestQuiet.f.br k _ _ _ _) (fun y9 => (LeO.bind (spec_LongestQuiet.f.br k _ _ _ _) (fun y10 => (LeO.ite' (fun h1 => (ih_j0 _ _ _ _ _ _ _ _ _ _ _ _ _ _)) (fun h1 => (LeO.bind (laws_qRows.f.br k _ _) (fun y58 => (LeO.nob (fun h2 => (LeO.ite' (fun h3 => (ih_j0 _ _ _ _ _ _ _ _ _ _ _ _ _ _)) (fun h3 => (LeO.bne (fun h4 => (LeO.ite' (fun h5 => (ih_j0 _ _ _ _ _ _ _ _ _ _ _ _ _ _)) (fun h5 => (LeO.bne (fun h6 => (LeO.bne (fun h7 => (LeO.ite' (fun h8 => (ih_j0 _ _ _ _ _ _ _ _ _ _ _ _ _ _)) (fun h8 => (LeO.bne (fun h9 => (LeO.bne (fun h10 => (LeO.ite' (fun h11 => (ih_j0 _ _ _ _ _ _ _ _ _ _ _ _ _ _)) (fun h11 => (LeO.ite' (fun h12 => (ih_j0 _ _ _ _ _ _ _ _ _ _ _ _ _ _)) (fun h12 => (LeO.ite' (fun h13 => (LeO.ite' (fun h14 => (ih_j0 _ _ _ _ _ _ _ _ _ _ _ _ _ _)) (fun h14 => (LeO.ite_t h13 (LeO.bind (impl_AreBirths.f.br _) (fun y87 => (LeO.nob (fun h15 => (LeO.bind (impl_AreBirths.f.br _) (fun y90 => (LeO.bind (spec_AreBirths.f.br k _) (fun y91 => (ih_j0 _ _ _ _ _ _ _ _ _ _ _ _ _ _)))))) (fun h15 => (ih_j0 _ _ _ _ _ _ _ _ _ _ _ _ _ _))))))))) (fun h13 => (LeO.ite' (fun h14 => (ih_j0 _ _ _ _ _ _ _ _ _ _ _ _ _ _)) (fun h14 => (LeO.ite_f h13 (LeO.bind (impl_AreBirths.f.br _) (fun y107 => (LeO.bind (spec_AreBirths.f.br k _) (fun y108 => (ih_j0 _ _ _ _ _ _ _ _ _ _ _ _ _ _))))))))))))))) (fun h10 => (ih_j0 _ _ _ _ _ _ _ _ _ _ _ _ _ _)))) (fun h9 => (ih_j0 _ _ _ _ _ _ _ _ _ _ _ _ _ _)))))) (fun h7 => (ih_j0 _ _ _ _ _ _ _ _ _ _ _ _ _ _)))) (fun h6 => (ih_j0 _ _ _ _ _ _ _ _ _ _ _ _ _ _)))))) (fun h4 => (ih_j0 _ _ _ _ _ _ _ _ _ _ _ _ _ _)))))) (fun h2 => (ih_j0 _ _ _ _ _ _ _ _ _ _ _ _ _ _)))))))))))))))))))))))))))))
end Go.Proofs.Ytkpoidakicgfbaa.C
