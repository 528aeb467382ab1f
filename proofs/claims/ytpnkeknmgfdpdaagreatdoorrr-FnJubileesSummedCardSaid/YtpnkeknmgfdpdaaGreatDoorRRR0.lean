/- What the functions of this seat come to, over plain values. No condition. -/
import Derived.Test.YtpnkeknmgfdpdaaGreatDoorRRE3
import Derived.Test.YtpnkeknmgfdpdaaGreatDoorRRK2
namespace Go.Proofs.YtpnkeknmgfdpdaaGreatDoorRR.X
open Go Go.Proofs.YtpnkeknmgfdpdaaGreatDoorRR.Eng Go.Proofs Go.Proofs.YtpnkeknmgfdpdaaGreatDoorRR
set_option maxRecDepth 100000
set_option linter.unusedVariables false
noncomputable section
def laws_big.f (x0 : List Int) (x1 : List Int) : Option (Bool) := if (x0.length : Int) > 1048576 then (some true) else (some (decide ((x1.length : Int) > (IntKind.i64.wrap (1048576 - (x0.length : Int))))))
theorem laws_big.f.br (x0 : List Int) (x1 : List Int) : LeO (laws_big.f x0 x1) (S.laws_big.f x0 x1) := by
  refine LeO.of (S.laws_big.f.eq _ _) ?_
  unfold laws_big.f
  exact (LeO.dec (fun h0 => LeO.refl _) (fun h0 => LeO.refl _))
def spec_l1Cur_next.f (x0_0 : List Int) (x0_1 : Int) (x0_2 : Int) : Option (Int × (List Int) × Int × Int) := if x0_1 < (x0_0.length : Int) then (if 0 ≤ x0_1 then (if (IntKind.i64.wrap (x0_1 + 1)) ≤ (x0_0.length : Int) then (some ((IntKind.i64.wrap (rde x0_0 x0_1)), x0_0, (IntKind.i64.wrap (x0_1 + 1)), (IntKind.u64.wrap ((IntKind.u64.wrap ((IntKind.u64.wrap (x0_2 * 6364136223846793005)) + (IntKind.u64.wrap (IntKind.i64.wrap (rde x0_0 x0_1))))) + 1442695040888963407)))) else (some ((IntKind.i64.wrap (bitI .and .u64 (shrI .u64 (IntKind.u64.wrap ((IntKind.u64.wrap ((IntKind.u64.wrap (x0_2 * 6364136223846793005)) + (IntKind.u64.wrap (IntKind.i64.wrap (rde x0_0 x0_1))))) + 1442695040888963407)) 40) 255)), x0_0, (IntKind.i64.wrap (x0_1 + 1)), (IntKind.u64.wrap ((IntKind.u64.wrap ((IntKind.u64.wrap (x0_2 * 6364136223846793005)) + (IntKind.u64.wrap (IntKind.i64.wrap (rde x0_0 x0_1))))) + 1442695040888963407))))) else (none)) else (if (IntKind.i64.wrap (x0_1 + 1)) ≤ (x0_0.length : Int) then (some (0, x0_0, (IntKind.i64.wrap (x0_1 + 1)), (IntKind.u64.wrap ((IntKind.u64.wrap ((IntKind.u64.wrap (x0_2 * 6364136223846793005)) + (IntKind.u64.wrap 0))) + 1442695040888963407)))) else (some ((IntKind.i64.wrap (bitI .and .u64 (shrI .u64 (IntKind.u64.wrap ((IntKind.u64.wrap ((IntKind.u64.wrap (x0_2 * 6364136223846793005)) + (IntKind.u64.wrap 0))) + 1442695040888963407)) 40) 255)), x0_0, (IntKind.i64.wrap (x0_1 + 1)), (IntKind.u64.wrap ((IntKind.u64.wrap ((IntKind.u64.wrap (x0_2 * 6364136223846793005)) + (IntKind.u64.wrap 0))) + 1442695040888963407)))))
theorem spec_l1Cur_next.f.br (x0_0 : List Int) (x0_1 : Int) (x0_2 : Int) : LeO (spec_l1Cur_next.f x0_0 x0_1 x0_2) (S.spec_l1Cur_next.f x0_0 x0_1 x0_2) := by
  refine LeO.of (S.spec_l1Cur_next.f.eq _ _ _) ?_
  unfold spec_l1Cur_next.f
  exact (LeO.dec (fun h0 => (LeO.tst fun h1 => (LeO.rdI h1 h0 (LeO.dec (fun h2 => LeO.refl _) (fun h2 => LeO.refl _))))) (fun h0 => (LeO.dec (fun h1 => LeO.refl _) (fun h1 => LeO.refl _))))
def spec_l1Cur_pick.f (x0_0 : List Int) (x0_1 : Int) (x0_2 : Int) (x1 : Int) : Option (Int × (List Int) × Int × Int) := if x1 ≤ 1 then (some (0, x0_0, x0_1, x0_2)) else ((spec_l1Cur_next.f x0_0 x0_1 x0_2).bind fun y2 => (if x1 > 200 then ((spec_l1Cur_next.f y2.2.1 y2.2.2.1 y2.2.2.2).bind fun y5 => (if x1 = 0 then (none) else (some (((IntKind.i64.wrap ((IntKind.i64.wrap (y2.1 * 256)) + y5.1)).tmod x1), y5.2.1, y5.2.2.1, y5.2.2.2)))) else (if x1 = 0 then (none) else (some ((y2.1.tmod x1), y2.2.1, y2.2.2.1, y2.2.2.2)))))
theorem spec_l1Cur_pick.f.br (x0_0 : List Int) (x0_1 : Int) (x0_2 : Int) (x1 : Int) : LeO (spec_l1Cur_pick.f x0_0 x0_1 x0_2 x1) (S.spec_l1Cur_pick.f x0_0 x0_1 x0_2 x1) := by
  refine LeO.of (S.spec_l1Cur_pick.f.eq _ _ _ _) ?_
  unfold spec_l1Cur_pick.f
  exact (LeO.dec (fun h0 => LeO.refl _) (fun h0 => (LeO.bind (spec_l1Cur_next.f.br _ _ _) (fun y2 => (LeO.dec (fun h1 => (LeO.bind (spec_l1Cur_next.f.br _ _ _) (fun y5 => (LeO.ite (LeO.none _) (LeO.refl _))))) (fun h1 => (LeO.ite (LeO.none _) (LeO.refl _))))))))
def spec_l1Cur_one.f (x0_0 : List Int) (x0_1 : Int) (x0_2 : Int) (x1 : Int) : Option (Bool × (List Int) × Int × Int) := (spec_l1Cur_pick.f x0_0 x0_1 x0_2 x1).bind fun y1 => (some ((y1.1 == 0), y1.2.1, y1.2.2.1, y1.2.2.2))
theorem spec_l1Cur_one.f.br (x0_0 : List Int) (x0_1 : Int) (x0_2 : Int) (x1 : Int) : LeO (spec_l1Cur_one.f x0_0 x0_1 x0_2 x1) (S.spec_l1Cur_one.f x0_0 x0_1 x0_2 x1) := by
  refine LeO.of (S.spec_l1Cur_one.f.eq _ _ _ _) ?_
  unfold spec_l1Cur_one.f
  exact (LeO.bind (spec_l1Cur_pick.f.br _ _ _ _) (fun y1 => LeO.refl _))
def spec_l1Cur_among.f (x0_0 : List Int) (x0_1 : Int) (x0_2 : Int) (x1 : List Int) : Option (Int × (List Int) × Int × Int) := (spec_l1Cur_pick.f x0_0 x0_1 x0_2 (x1.length : Int)).bind fun y2 => (if 0 ≤ y2.1 then (if y2.1 < (x1.length : Int) then (some ((rde x1 y2.1), y2.2.1, y2.2.2.1, y2.2.2.2)) else (none)) else (none))
theorem spec_l1Cur_among.f.br (x0_0 : List Int) (x0_1 : Int) (x0_2 : Int) (x1 : List Int) : LeO (spec_l1Cur_among.f x0_0 x0_1 x0_2 x1) (S.spec_l1Cur_among.f x0_0 x0_1 x0_2 x1) := by
  refine LeO.of (S.spec_l1Cur_among.f.eq _ _ _ _) ?_
  unfold spec_l1Cur_among.f
  exact (LeO.bind (spec_l1Cur_pick.f.br _ _ _ _) (fun y2 => (LeO.tst fun h0 => (LeO.tst fun h1 => (LeO.rdI h0 h1 (LeO.refl _))))))
def spec_l1Cur_year.f (x0_0 : List Int) (x0_1 : Int) (x0_2 : Int) : Option (Int × (List Int) × Int × Int) := (spec_l1Cur_one.f x0_0 x0_1 x0_2 10).bind fun y1 => (if y1.1 = true then ((spec_l1Cur_among.f y1.2.1 y1.2.2.1 y1.2.2.2 [(-1), 0, 1, 2999, 3000, 3001, 4611686018427387904]).bind fun y2 => (some (y2.1, y2.2.1, y2.2.2.1, y2.2.2.2))) else ((spec_l1Cur_pick.f y1.2.1 y1.2.2.1 y1.2.2.2 110).bind fun y3 => (some ((IntKind.i64.wrap (1925 + y3.1)), y3.2.1, y3.2.2.1, y3.2.2.2))))
theorem spec_l1Cur_year.f.br (x0_0 : List Int) (x0_1 : Int) (x0_2 : Int) : LeO (spec_l1Cur_year.f x0_0 x0_1 x0_2) (S.spec_l1Cur_year.f x0_0 x0_1 x0_2) := by
  refine LeO.of (S.spec_l1Cur_year.f.eq _ _ _) ?_
  unfold spec_l1Cur_year.f
  exact (LeO.bind (spec_l1Cur_one.f.br _ _ _ _) (fun y1 => (LeO.ite' (fun h0 => (LeO.bind (spec_l1Cur_among.f.br _ _ _ _) (fun y2 => LeO.refl _))) (fun h0 => (LeO.bind (spec_l1Cur_pick.f.br _ _ _ _) (fun y3 => LeO.refl _))))))
def spec_l1Least.f (x0 : Int) (x1 : Int) : Option (Int) := if x0 < x1 then (some x0) else (some x1)
theorem spec_l1Least.f.br (x0 : Int) (x1 : Int) : LeO (spec_l1Least.f x0 x1) (S.spec_l1Least.f x0 x1) := by
  refine LeO.of (S.spec_l1Least.f.eq _ _) ?_
  unfold spec_l1Least.f
  exact (LeO.dec (fun h0 => LeO.refl _) (fun h0 => LeO.refl _))
def spec_l1Cur_span.f (x0_0 : List Int) (x0_1 : Int) (x0_2 : Int) : Option (Int × Int × (List Int) × Int × Int) := (spec_l1Cur_year.f x0_0 x0_1 x0_2).bind fun y1 => ((spec_l1Cur_one.f y1.2.1 y1.2.2.1 y1.2.2.2 10).bind fun y2 => (if y2.1 = true then ((spec_l1Least.f y1.1 5000).bind fun y3 => ((spec_l1Cur_among.f y2.2.1 y2.2.2.1 y2.2.2.2 [(-1), 0, 199, 200, 201]).bind fun y4 => (some (y1.1, (IntKind.i64.wrap (y3 + y4.1)), y4.2.1, y4.2.2.1, y4.2.2.2)))) else ((spec_l1Least.f y1.1 5000).bind fun y6 => ((spec_l1Cur_pick.f y2.2.1 y2.2.2.1 y2.2.2.2 50).bind fun y7 => (some (y1.1, (IntKind.i64.wrap (y6 + y7.1)), y7.2.1, y7.2.2.1, y7.2.2.2))))))
theorem spec_l1Cur_span.f.br (x0_0 : List Int) (x0_1 : Int) (x0_2 : Int) : LeO (spec_l1Cur_span.f x0_0 x0_1 x0_2) (S.spec_l1Cur_span.f x0_0 x0_1 x0_2) := by
  refine LeO.of (S.spec_l1Cur_span.f.eq _ _ _) ?_
  unfold spec_l1Cur_span.f
  exact (LeO.bind (spec_l1Cur_year.f.br _ _ _) (fun y1 => (LeO.bind (spec_l1Cur_one.f.br _ _ _ _) (fun y2 => (LeO.ite' (fun h0 => (LeO.bind (spec_l1Least.f.br _ _) (fun y3 => (LeO.bind (spec_l1Cur_among.f.br _ _ _ _) (fun y4 => LeO.refl _))))) (fun h0 => (LeO.bind (spec_l1Least.f.br _ _) (fun y6 => (LeO.bind (spec_l1Cur_pick.f.br _ _ _ _) (fun y7 => LeO.refl _))))))))))
def spec_l1Cur_sureBorn.l0 : Nat → List Int → Int → List Int → Int → Int → Option ((List Int) × (List Int) × Int × Int)
  | 0, _, _, _, _, _ => none
  | k + 1, x5, x6, x0_0, x0_1, x0_2 => if x6 > 0 then ((spec_l1Cur_pick.f x0_0 x0_1 x0_2 12).bind fun y2 => ((spec_l1Cur_pick.f y2.2.1 y2.2.2.1 y2.2.2.2 3).bind fun y5 => (if x5.length < 17592186044416 then (spec_l1Cur_sureBorn.l0 k (x5 ++ [(IntKind.i64.wrap ((IntKind.i64.wrap (1930 + (IntKind.i64.wrap (5 * y2.1)))) + (IntKind.i64.wrap (y5.1.tdiv 2))))]) (IntKind.i64.wrap (x6 - 1)) y5.2.1 y5.2.2.1 y5.2.2.2) else (none)))) else (some (x5, x0_0, x0_1, x0_2))
def spec_l1Cur_sureBorn.f (k : Nat) (x0_0 : List Int) (x0_1 : Int) (x0_2 : Int) (x1 : Int) : Option ((List Int) × (List Int) × Int × Int) := (spec_l1Cur_pick.f x0_0 x0_1 x0_2 x1).bind fun y1 => (spec_l1Cur_sureBorn.l0 k [] (IntKind.i64.wrap (1 + y1.1)) y1.2.1 y1.2.2.1 y1.2.2.2)
theorem spec_l1Cur_sureBorn.br_l : ∀ k, (∀ (x5 : List Int) (x6 : Int) (x0_0 : List Int) (x0_1 : Int) (x0_2 : Int), LeO (spec_l1Cur_sureBorn.l0 k x5 x6 x0_0 x0_1 x0_2) (S.spec_l1Cur_sureBorn.l0 x5 x6 x0_0 x0_1 x0_2))
  | 0 => fun _ _ _ _ _ => LeO.none _
  | k + 1 => by
    have ih := spec_l1Cur_sureBorn.br_l k
    have ih_l0 := ih
    refine fun x5 x6 x0_0 x0_1 x0_2 => ?_
    · refine LeO.of (S.spec_l1Cur_sureBorn.l0.eq _ _ _ _ _) ?_
      show LeO (spec_l1Cur_sureBorn.l0 (k + 1) x5 x6 x0_0 x0_1 x0_2) _
      unfold spec_l1Cur_sureBorn.l0
      exact (LeO.dec (fun h0 => (LeO.bind (spec_l1Cur_pick.f.br _ _ _ _) (fun y2 => (LeO.bind (spec_l1Cur_pick.f.br _ _ _ _) (fun y5 => (LeO.tst fun h1 => (LeO.cat1 h1 (ih_l0 _ _ _ _ _)))))))) (fun h0 => LeO.refl _))
theorem spec_l1Cur_sureBorn.f.br (k : Nat) (x0_0 : List Int) (x0_1 : Int) (x0_2 : Int) (x1 : Int) : LeO (spec_l1Cur_sureBorn.f k x0_0 x0_1 x0_2 x1) (S.spec_l1Cur_sureBorn.f x0_0 x0_1 x0_2 x1) := by
  refine LeO.of (S.spec_l1Cur_sureBorn.f.eq _ _ _ _) ?_
  unfold spec_l1Cur_sureBorn.f
  have ih_l0 := (spec_l1Cur_sureBorn.br_l k)
  exact (LeO.bind (spec_l1Cur_pick.f.br _ _ _ _) (fun y1 => (ih_l0 _ _ _ _ _)))
def spec_l1Cur_born.l0 : Nat → List Int → List Int → Int → Int → Option ((List Int) × (List Int) × Int × Int)
  | 0, _, _, _, _ => none
  | k + 1, x3, x0_0, x0_1, x0_2 => (spec_l1Cur_pick.f x0_0 x0_1 x0_2 2).bind fun y2 => (if (x3.length : Int) < (IntKind.i64.wrap (10 + y2.1)) then (if x3.length < 17592186044416 then (spec_l1Cur_born.l0 k (x3 ++ [1970]) y2.2.1 y2.2.2.1 y2.2.2.2) else (none)) else (some (x3, y2.2.1, y2.2.2.1, y2.2.2.2)))
def spec_l1Cur_born.f (k : Nat) (x0_0 : List Int) (x0_1 : Int) (x0_2 : Int) : Option ((List Int) × (List Int) × Int × Int) := (spec_l1Cur_sureBorn.f k x0_0 x0_1 x0_2 5).bind fun y1 => ((spec_l1Cur_pick.f y1.2.1 y1.2.2.1 y1.2.2.2 20).bind fun y2 => (if y2.1 = 0 then (some ([], y2.2.1, y2.2.2.1, y2.2.2.2)) else (if y2.1 = 1 then ((spec_l1Cur_among.f y2.2.1 y2.2.2.1 y2.2.2.2 [(-1), 0, 2900, 2901, 4611686018427387904]).bind fun y5 => (if y1.1.length < 17592186044416 then (some ((y1.1 ++ [y5.1]), y5.2.1, y5.2.2.1, y5.2.2.2)) else (none))) else (if y2.1 = 2 then (spec_l1Cur_born.l0 k y1.1 y2.2.1 y2.2.2.1 y2.2.2.2) else (some (y1.1, y2.2.1, y2.2.2.1, y2.2.2.2))))))
theorem spec_l1Cur_born.br_l : ∀ k, (∀ (x3 : List Int) (x0_0 : List Int) (x0_1 : Int) (x0_2 : Int), LeO (spec_l1Cur_born.l0 k x3 x0_0 x0_1 x0_2) (S.spec_l1Cur_born.l0 x3 x0_0 x0_1 x0_2))
  | 0 => fun _ _ _ _ => LeO.none _
  | k + 1 => by
    have ih := spec_l1Cur_born.br_l k
    have ih_l0 := ih
    refine fun x3 x0_0 x0_1 x0_2 => ?_
    · refine LeO.of (S.spec_l1Cur_born.l0.eq _ _ _ _) ?_
      show LeO (spec_l1Cur_born.l0 (k + 1) x3 x0_0 x0_1 x0_2) _
      unfold spec_l1Cur_born.l0
      exact (LeO.bind (spec_l1Cur_pick.f.br _ _ _ _) (fun y2 => (LeO.dec (fun h0 => (LeO.tst fun h1 => (LeO.cat1 h1 (ih_l0 _ _ _ _)))) (fun h0 => LeO.refl _))))
theorem spec_l1Cur_born.f.br (k : Nat) (x0_0 : List Int) (x0_1 : Int) (x0_2 : Int) : LeO (spec_l1Cur_born.f k x0_0 x0_1 x0_2) (S.spec_l1Cur_born.f x0_0 x0_1 x0_2) := by
  refine LeO.of (S.spec_l1Cur_born.f.eq _ _ _) ?_
  unfold spec_l1Cur_born.f
  have ih_l0 := (spec_l1Cur_born.br_l k)
  exact (LeO.bind (spec_l1Cur_sureBorn.f.br k _ _ _ _) (fun y1 => (LeO.bind (spec_l1Cur_pick.f.br _ _ _ _) (fun y2 => (LeO.beq (fun h0 => LeO.refl _) (fun h0 => (LeO.beq (fun h1 => (LeO.bind (spec_l1Cur_among.f.br _ _ _ _) (fun y5 => (LeO.tst fun h2 => (LeO.cat1 h2 (LeO.refl _)))))) (fun h1 => (LeO.beq (fun h2 => (ih_l0 _ _ _ _)) (fun h2 => LeO.refl _))))))))))
def spec_l1Cur_jubilee.f (x0_0 : List Int) (x0_1 : Int) (x0_2 : Int) : Option (Int × (List Int) × Int × Int) := (spec_l1Cur_among.f x0_0 x0_1 x0_2 [1, 5, 5, 10, 10, 20, 25, 50, 100, 101, 0]).bind fun y1 => (some (y1.1, y1.2.1, y1.2.2.1, y1.2.2.2))
theorem spec_l1Cur_jubilee.f.br (x0_0 : List Int) (x0_1 : Int) (x0_2 : Int) : LeO (spec_l1Cur_jubilee.f x0_0 x0_1 x0_2) (S.spec_l1Cur_jubilee.f x0_0 x0_1 x0_2) := by
  refine LeO.of (S.spec_l1Cur_jubilee.f.eq _ _ _) ?_
  unfold spec_l1Cur_jubilee.f
  exact (LeO.bind (spec_l1Cur_among.f.br _ _ _ _) (fun y1 => LeO.refl _))
def spec_DrawCountJubilees.f (k : Nat) (x0 : List Int) : Option ((List Int) × Int × Int × Int) := (spec_l1Cur_span.f x0 0 0).bind fun y1 => ((spec_l1Cur_born.f k y1.2.2.1 y1.2.2.2.1 y1.2.2.2.2).bind fun y2 => ((spec_l1Cur_jubilee.f y2.2.1 y2.2.2.1 y2.2.2.2).bind fun y3 => (some (y2.1, y1.1, y1.2.1, y3.1))))
theorem spec_DrawCountJubilees.f.br (k : Nat) (x0 : List Int) : LeO (spec_DrawCountJubilees.f k x0) (S.spec_DrawCountJubilees.f x0) := by
  refine LeO.of (S.spec_DrawCountJubilees.f.eq _) ?_
  unfold spec_DrawCountJubilees.f
  exact (LeO.bind (spec_l1Cur_span.f.br _ _ _) (fun y1 => (LeO.bind (spec_l1Cur_born.f.br k _ _ _) (fun y2 => (LeO.bind (spec_l1Cur_jubilee.f.br _ _ _) (fun y3 => LeO.refl _))))))
def spec_DrawRoundSums.f (k : Nat) (x0 : List Int) : Option ((List Int) × Int × Int × Int) := (spec_DrawCountJubilees.f k x0).bind fun y1 => (some (y1.1, y1.2.1, y1.2.2.1, y1.2.2.2))
theorem spec_DrawRoundSums.f.br (k : Nat) (x0 : List Int) : LeO (spec_DrawRoundSums.f k x0) (S.spec_DrawRoundSums.f x0) := by
  refine LeO.of (S.spec_DrawRoundSums.f.eq _) ?_
  unfold spec_DrawRoundSums.f
  exact (LeO.bind (spec_DrawCountJubilees.f.br k _) (fun y1 => LeO.refl _))
def impl_between.f (x0 : Int) (x1 : Int) (x2 : Int) : Option (Bool) := if x0 ≥ x1 then (some (decide (x0 ≤ x2))) else (some false)
theorem impl_between.f.br (x0 : Int) (x1 : Int) (x2 : Int) : LeO (impl_between.f x0 x1 x2) (S.impl_between.f x0 x1 x2) := by
  refine LeO.of (S.impl_between.f.eq _ _ _) ?_
  unfold impl_between.f
  exact (LeO.dec (fun h0 => LeO.refl _) (fun h0 => LeO.refl _))
def impl_areBetween_1.f (x0 : Int) (x1 : Int) (x2 : Int) : Option (Bool) := (impl_between.f x0 x1 x2).bind fun y1 => (some (!y1))
theorem impl_areBetween_1.f.br (x0 : Int) (x1 : Int) (x2 : Int) : LeO (impl_areBetween_1.f x0 x1 x2) (S.impl_areBetween_1.f x0 x1 x2) := by
  refine LeO.of (S.impl_areBetween_1.f.eq _ _ _) ?_
  unfold impl_areBetween_1.f
  exact (LeO.bind (impl_between.f.br _ _ _) (fun y1 => LeO.refl _))
def slices_IndexFunc.l0 : Nat → List Int → Int → Int → Int → Int → Option (Int)
  | 0, _, _, _, _, _ => none
  | k + 1, x0, x1_0, x1_1, x7, x8 => if x8 < x7 then (if 0 ≤ x8 then (if x8 < (x0.length : Int) then (((impl_areBetween_1.f (rde x0 x8) x1_0 x1_1).bind some).bind fun y3 => (if y3 = true then (some x8) else (slices_IndexFunc.l0 k x0 x1_0 x1_1 x7 (IntKind.i64.wrap (x8 + 1))))) else (none)) else (none)) else (some (-1))
def slices_IndexFunc.f (k : Nat) (x0 : List Int) (x1_0 : Int) (x1_1 : Int) : Option (Int) := slices_IndexFunc.l0 k x0 x1_0 x1_1 (x0.length : Int) 0
theorem slices_IndexFunc.br_l : ∀ k, (∀ (x0 : List Int) (x1_0 : Int) (x1_1 : Int) (x7 : Int) (x8 : Int), LeO (slices_IndexFunc.l0 k x0 x1_0 x1_1 x7 x8) (S.slices_IndexFunc.l0 x0 x1_0 x1_1 x7 x8))
  | 0 => fun _ _ _ _ _ => LeO.none _
  | k + 1 => by
    have ih := slices_IndexFunc.br_l k
    have ih_l0 := ih
    refine fun x0 x1_0 x1_1 x7 x8 => ?_
    · refine LeO.of (S.slices_IndexFunc.l0.eq _ _ _ _ _) ?_
      show LeO (slices_IndexFunc.l0 (k + 1) x0 x1_0 x1_1 x7 x8) _
      unfold slices_IndexFunc.l0
      exact (LeO.dec (fun h0 => (LeO.tst fun h1 => (LeO.tst fun h2 => (LeO.rdI h1 h2 (LeO.bind (LeO.bind (impl_areBetween_1.f.br _ _ _) (fun _ => LeO.refl _)) (fun y3 => (LeO.ite' (fun h3 => LeO.refl _) (fun h3 => (ih_l0 _ _ _ _ _))))))))) (fun h0 => LeO.refl _))
theorem slices_IndexFunc.f.br (k : Nat) (x0 : List Int) (x1_0 : Int) (x1_1 : Int) : LeO (slices_IndexFunc.f k x0 x1_0 x1_1) (S.slices_IndexFunc.f x0 x1_0 x1_1) := by
  refine LeO.of (S.slices_IndexFunc.f.eq _ _ _) ?_
  unfold slices_IndexFunc.f
  have ih_l0 := (slices_IndexFunc.br_l k)
  exact (ih_l0 _ _ _ _ _)
def slices_ContainsFunc.f (k : Nat) (x0 : List Int) (x1_0 : Int) (x1_1 : Int) : Option (Bool) := (slices_IndexFunc.f k x0 x1_0 x1_1).bind fun y1 => (some (decide (y1 ≥ 0)))
theorem slices_ContainsFunc.f.br (k : Nat) (x0 : List Int) (x1_0 : Int) (x1_1 : Int) : LeO (slices_ContainsFunc.f k x0 x1_0 x1_1) (S.slices_ContainsFunc.f x0 x1_0 x1_1) := by
  refine LeO.of (S.slices_ContainsFunc.f.eq _ _ _) ?_
  unfold slices_ContainsFunc.f
  exact (LeO.bind (slices_IndexFunc.f.br k _ _ _) (fun y1 => LeO.refl _))
theorem areBetween_1_is (x a b : Int) : impl_areBetween_1.f x a b = some (!(decide (a ≤ x) && decide (x ≤ b))) := by
  unfold impl_areBetween_1.f impl_between.f
  by_cases h : x ≥ a
  · rw [if_pos h, decide_eq_true (show a ≤ x from h), Bool.true_and]; rfl
  · rw [if_neg h, decide_eq_false (show ¬ a ≤ x from h), Bool.false_and]; rfl
theorem IndexFunc_l (l : List Int) (a b : Int) (hl : l.length < 4611686018427387904) : ∀ (d i k : Nat), i + d = l.length → d < k → ∃ r, slices_IndexFunc.l0 k l a b (l.length : Int) (i : Int) = some r ∧ decide (r ≥ 0) = !((l.drop i).all fun x => decide (a ≤ x) && decide (x ≤ b)) := by
  intro d
  induction d with
  | zero =>
    intro i k h hk
    obtain ⟨k, rfl⟩ : ∃ m, k = m + 1 := ⟨k - 1, by omega⟩
    unfold slices_IndexFunc.l0
    rw [if_neg (by omega), List.drop_eq_nil_of_le (by omega)]
    exact ⟨_, rfl, by simp⟩
  | succ d ih =>
    intro i k h hk
    obtain ⟨k, rfl⟩ : ∃ m, k = m + 1 := ⟨k - 1, by omega⟩
    unfold slices_IndexFunc.l0
    have hi : i < l.length := by omega
    rw [if_pos (by omega), if_pos (by omega), if_pos (by omega), areBetween_1_is, List.drop_eq_getElem_cons hi, List.all_cons]
    have e : rde l (i : Int) = l[i] := by unfold rde; rw [Int.toNat_natCast, List.getD_eq_getElem?_getD, List.getElem?_eq_getElem hi, Option.getD_some]
    rw [e]
    simp only [Option.bind_some]
    cases hb : (decide (a ≤ l[i]) && decide (l[i] ≤ b))
    · exact ⟨(i : Int), by simp, by simp⟩
    · have hw : IntKind.i64.wrap ((i : Int) + 1) = ((i + 1 : Nat) : Int) := by rw [Go.IntWalk.i64_left]; unfold Go.RowKit.wrap64; omega
      obtain ⟨r, h1, h2⟩ := ih (i + 1) k (by omega) (by omega)
      refine ⟨r, ?_, ?_⟩
      · rw [hw, h1]; rfl
      · rw [h2, Bool.true_and]
/-- Are all numbers of a list in their bounds? -/
def impl_areBetween.f (x0 : List Int) (x1 : Int) (x2 : Int) : Option (Bool) := if x0.length < 4611686018427387904 then some (x0.all fun x => decide (x1 ≤ x) && decide (x ≤ x2)) else none
theorem impl_areBetween.f.br (x0 : List Int) (x1 : Int) (x2 : Int) : LeO (impl_areBetween.f x0 x1 x2) (S.impl_areBetween.f x0 x1 x2) := by
  unfold impl_areBetween.f
  split
  · rename_i hl
    obtain ⟨r, h1, h2⟩ := IndexFunc_l x0 x1 x2 hl x0.length 0 (x0.length + 1) (by omega) (by omega)
    rw [List.drop_zero] at h2
    have h3 : slices_ContainsFunc.f (x0.length + 1) x0 x1 x2 = some (decide (r ≥ 0)) := by
      unfold slices_ContainsFunc.f slices_IndexFunc.f
      have h1' : slices_IndexFunc.l0 (x0.length + 1) x0 x1 x2 (x0.length : Int) 0 = some r := h1
      rw [h1']; rfl
    have h4 := slices_ContainsFunc.f.br _ _ _ _ _ h3
    refine LeO.of (S.impl_areBetween.f.eq _ _ _) ?_
    rw [h4, h2]
    simp only [Option.bind_some, Bool.not_not]
    exact LeO.refl _
  · exact LeO.none _
def impl_AreBirths.f (x0 : List Int) : Option (Bool) := (impl_between.f (x0.length : Int) 1 10).bind fun y2 => (if y2 = true then ((impl_areBetween.f x0 0 2900).bind fun y3 => (some y3)) else (some false))
theorem impl_AreBirths.f.br (x0 : List Int) : LeO (impl_AreBirths.f x0) (S.impl_AreBirths.f x0) := by
  refine LeO.of (S.impl_AreBirths.f.eq _) ?_
  unfold impl_AreBirths.f
  exact (LeO.bind (impl_between.f.br _ _ _) (fun y2 => (LeO.ite' (fun h0 => (LeO.bind (impl_areBetween.f.br _ _ _) (fun y3 => LeO.refl _))) (fun h0 => LeO.refl _))))
def impl_isYear.f (x0 : Int) : Option (Bool) := (impl_between.f x0 0 3000).bind fun y1 => (some y1)
theorem impl_isYear.f.br (x0 : Int) : LeO (impl_isYear.f x0) (S.impl_isYear.f x0) := by
  refine LeO.of (S.impl_isYear.f.eq _) ?_
  unfold impl_isYear.f
  exact (LeO.bind (impl_between.f.br _ _ _) (fun y1 => LeO.refl _))
def impl_isSpan.f (x0 : Int) (x1 : Int) : Option (Bool) := (impl_isYear.f x0).bind fun y1 => (if y1 = true then ((impl_between.f x1 x0 3000).bind fun y2 => (if y2 = true then (some (decide ((IntKind.i64.wrap (x1 - x0)) < 200))) else (some false))) else (some false))
theorem impl_isSpan.f.br (x0 : Int) (x1 : Int) : LeO (impl_isSpan.f x0 x1) (S.impl_isSpan.f x0 x1) := by
  refine LeO.of (S.impl_isSpan.f.eq _ _) ?_
  unfold impl_isSpan.f
  exact (LeO.bind (impl_isYear.f.br _) (fun y1 => (LeO.ite' (fun h0 => (LeO.bind (impl_between.f.br _ _ _) (fun y2 => (LeO.ite' (fun h1 => LeO.refl _) (fun h1 => LeO.refl _))))) (fun h0 => LeO.refl _))))
def impl_isEvery.f (x0 : Int) : Option (Bool) := (impl_between.f x0 1 100).bind fun y1 => (some y1)
theorem impl_isEvery.f.br (x0 : Int) : LeO (impl_isEvery.f x0) (S.impl_isEvery.f x0) := by
  refine LeO.of (S.impl_isEvery.f.eq _) ?_
  unfold impl_isEvery.f
  exact (LeO.bind (impl_between.f.br _ _ _) (fun y1 => LeO.refl _))
def impl_isAge.f (x0 : Int) : Option (Bool) := (impl_between.f x0 0 120).bind fun y1 => (some y1)
theorem impl_isAge.f.br (x0 : Int) : LeO (impl_isAge.f x0) (S.impl_isAge.f x0) := by
  refine LeO.of (S.impl_isAge.f.eq _) ?_
  unfold impl_isAge.f
  exact (LeO.bind (impl_between.f.br _ _ _) (fun y1 => LeO.refl _))
def impl_ageIn.f (x0 : Int) (x1 : Int) : Option (Int × Bool) := (impl_isAge.f (IntKind.i64.wrap (x1 - x0))).bind fun y3 => (some ((IntKind.i64.wrap (x1 - x0)), y3))
theorem impl_ageIn.f.br (x0 : Int) (x1 : Int) : LeO (impl_ageIn.f x0 x1) (S.impl_ageIn.f x0 x1) := by
  refine LeO.of (S.impl_ageIn.f.eq _ _) ?_
  unfold impl_ageIn.f
  exact (LeO.bind (impl_isAge.f.br _) (fun y3 => LeO.refl _))
def impl_sumOfAges.l0 : Nat → Int → Int → List Int → Int → Int → Option (Int)
  | 0, _, _, _, _, _ => none
  | k + 1, x1, x5, x10, x11, x12 => if x12 < x11 then (if 0 ≤ x12 then (if x12 < (x10.length : Int) then ((impl_ageIn.f (rde x10 x12) x1).bind fun y3 => (if y3.2 = true then (impl_sumOfAges.l0 k x1 (IntKind.i64.wrap (x5 + y3.1)) x10 x11 (IntKind.i64.wrap (x12 + 1))) else (impl_sumOfAges.l0 k x1 x5 x10 x11 (IntKind.i64.wrap (x12 + 1))))) else (none)) else (none)) else (some x5)
def impl_sumOfAges.f (k : Nat) (x0 : List Int) (x1 : Int) : Option (Int) := impl_sumOfAges.l0 k x1 0 x0 (x0.length : Int) 0
theorem impl_sumOfAges.br_l : ∀ k, (∀ (x1 : Int) (x5 : Int) (x10 : List Int) (x11 : Int) (x12 : Int), LeO (impl_sumOfAges.l0 k x1 x5 x10 x11 x12) (S.impl_sumOfAges.l0 x1 x5 x10 x11 x12))
  | 0 => fun _ _ _ _ _ => LeO.none _
  | k + 1 => by
    have ih := impl_sumOfAges.br_l k
    have ih_l0 := ih
    refine fun x1 x5 x10 x11 x12 => ?_
    · refine LeO.of (S.impl_sumOfAges.l0.eq _ _ _ _ _) ?_
      show LeO (impl_sumOfAges.l0 (k + 1) x1 x5 x10 x11 x12) _
      unfold impl_sumOfAges.l0
      exact (LeO.dec (fun h0 => (LeO.tst fun h1 => (LeO.tst fun h2 => (LeO.rdI h1 h2 (LeO.bind (impl_ageIn.f.br _ _) (fun y3 => (LeO.ite' (fun h3 => (ih_l0 _ _ _ _ _)) (fun h3 => (ih_l0 _ _ _ _ _))))))))) (fun h0 => LeO.refl _))
theorem impl_sumOfAges.f.br (k : Nat) (x0 : List Int) (x1 : Int) : LeO (impl_sumOfAges.f k x0 x1) (S.impl_sumOfAges.f x0 x1) := by
  refine LeO.of (S.impl_sumOfAges.f.eq _ _) ?_
  unfold impl_sumOfAges.f
  have ih_l0 := (impl_sumOfAges.br_l k)
  exact (ih_l0 _ _ _ _ _)
def impl_isRound.f (x0 : Int) (x1 : Int) : Option (Bool) := if x0 > 0 then (if x1 = 0 then (none) else (some ((x0.tmod x1) == 0))) else (some false)
theorem impl_isRound.f.br (x0 : Int) (x1 : Int) : LeO (impl_isRound.f x0 x1) (S.impl_isRound.f x0 x1) := by
  refine LeO.of (S.impl_isRound.f.eq _ _) ?_
  unfold impl_isRound.f
  exact (LeO.dec (fun h0 => (LeO.ite (LeO.none _) (LeO.refl _))) (fun h0 => LeO.refl _))
mutual
def impl_RoundSums.j0 : Nat → List Int → Int → Int → Int → Bool → Option ((List Int) × Bool)
  | 0, _, _, _, _, _ => none
  | k + 1, x0, x1, x2, x3, x25 => if x25 = true then (some ([], false)) else (impl_RoundSums.l0 k x0 x2 x3 [] x1)
def impl_RoundSums.l0 : Nat → List Int → Int → Int → List Int → Int → Option ((List Int) × Bool)
  | 0, _, _, _, _, _ => none
  | k + 1, x0, x2, x3, x10, x11 => if x11 ≤ x2 then ((impl_sumOfAges.f k x0 x11).bind fun y2 => ((impl_isRound.f y2 x3).bind fun y3 => (if y3 = true then (if x10.length < 17592186044416 then (impl_RoundSums.l0 k x0 x2 x3 (x10 ++ [x11]) (IntKind.i64.wrap (x11 + 1))) else (none)) else (impl_RoundSums.l0 k x0 x2 x3 x10 (IntKind.i64.wrap (x11 + 1)))))) else (some (x10, true))
end
def impl_RoundSums.f (k : Nat) (x0 : List Int) (x1 : Int) (x2 : Int) (x3 : Int) : Option ((List Int) × Bool) := (impl_AreBirths.f x0).bind fun y1 => (if y1 = true then ((impl_isSpan.f x1 x2).bind fun y7 => (if y7 = true then ((impl_isEvery.f x3).bind fun y9 => (impl_RoundSums.j0 k x0 x1 x2 x3 (!y9))) else (impl_RoundSums.j0 k x0 x1 x2 x3 true))) else (impl_RoundSums.j0 k x0 x1 x2 x3 true))
theorem impl_RoundSums.br_l : ∀ k, (∀ (x0 : List Int) (x1 : Int) (x2 : Int) (x3 : Int) (x25 : Bool), LeO (impl_RoundSums.j0 k x0 x1 x2 x3 x25) (S.impl_RoundSums.j0 x0 x1 x2 x3 x25)) ∧ (∀ (x0 : List Int) (x2 : Int) (x3 : Int) (x10 : List Int) (x11 : Int), LeO (impl_RoundSums.l0 k x0 x2 x3 x10 x11) (S.impl_RoundSums.l0 x0 x2 x3 x10 x11))
  | 0 => ⟨fun _ _ _ _ _ => LeO.none _, fun _ _ _ _ _ => LeO.none _⟩
  | k + 1 => by
    have ih := impl_RoundSums.br_l k
    obtain ⟨ih_j0, ih_l0⟩ := ih
    refine ⟨fun x0 x1 x2 x3 x25 => ?_, fun x0 x2 x3 x10 x11 => ?_⟩
    · refine LeO.of (S.impl_RoundSums.j0.eq _ _ _ _ _) ?_
      unfold impl_RoundSums.j0
      exact (LeO.ite' (fun h0 => LeO.refl _) (fun h0 => (ih_l0 _ _ _ _ _)))
    · refine LeO.of (S.impl_RoundSums.l0.eq _ _ _ _ _) ?_
      unfold impl_RoundSums.l0
      exact (LeO.dec (fun h0 => (LeO.bind (impl_sumOfAges.f.br k _ _) (fun y2 => (LeO.bind (impl_isRound.f.br _ _) (fun y3 => (LeO.ite' (fun h1 => (LeO.tst fun h2 => (LeO.cat1 h2 (ih_l0 _ _ _ _ _)))) (fun h1 => (ih_l0 _ _ _ _ _)))))))) (fun h0 => LeO.refl _))
theorem impl_RoundSums.f.br (k : Nat) (x0 : List Int) (x1 : Int) (x2 : Int) (x3 : Int) : LeO (impl_RoundSums.f k x0 x1 x2 x3) (S.impl_RoundSums.f x0 x1 x2 x3) := by
  refine LeO.of (S.impl_RoundSums.f.eq _ _ _ _) ?_
  unfold impl_RoundSums.f
  have ih_j0 := (impl_RoundSums.br_l k).1
  exact (LeO.bind (impl_AreBirths.f.br _) (fun y1 => (LeO.nob (fun h0 => (LeO.bind (impl_isSpan.f.br _ _) (fun y7 => (LeO.nob (fun h1 => (LeO.bind (impl_isEvery.f.br _) (fun y9 => (ih_j0 _ _ _ _ _)))) (fun h1 => (ih_j0 _ _ _ _ _)))))) (fun h0 => (ih_j0 _ _ _ _ _)))))
def spec_l1In.f (x0 : Int) (x1 : Int) (x2 : Int) : Option (Bool) := if x0 ≥ x1 then (some (decide (x0 ≤ x2))) else (some false)
theorem spec_l1In.f.br (x0 : Int) (x1 : Int) (x2 : Int) : LeO (spec_l1In.f x0 x1 x2) (S.spec_l1In.f x0 x1 x2) := by
  refine LeO.of (S.spec_l1In.f.eq _ _ _) ?_
  unfold spec_l1In.f
  exact (LeO.dec (fun h0 => LeO.refl _) (fun h0 => LeO.refl _))
def spec_l1All.l0 : Nat → Int → Int → List Int → Int → Int → Option (Bool)
  | 0, _, _, _, _, _ => none
  | k + 1, x1, x2, x9, x10, x11 => if x11 < x10 then (if 0 ≤ x11 then (if x11 < (x9.length : Int) then ((spec_l1In.f (rde x9 x11) x1 x2).bind fun y3 => (if y3 = true then (spec_l1All.l0 k x1 x2 x9 x10 (IntKind.i64.wrap (x11 + 1))) else (some false))) else (none)) else (none)) else (some true)
def spec_l1All.f (k : Nat) (x0 : List Int) (x1 : Int) (x2 : Int) : Option (Bool) := spec_l1All.l0 k x1 x2 x0 (x0.length : Int) 0
theorem spec_l1All.br_l : ∀ k, (∀ (x1 : Int) (x2 : Int) (x9 : List Int) (x10 : Int) (x11 : Int), LeO (spec_l1All.l0 k x1 x2 x9 x10 x11) (S.spec_l1All.l0 x1 x2 x9 x10 x11))
  | 0 => fun _ _ _ _ _ => LeO.none _
  | k + 1 => by
    have ih := spec_l1All.br_l k
    have ih_l0 := ih
    refine fun x1 x2 x9 x10 x11 => ?_
    · refine LeO.of (S.spec_l1All.l0.eq _ _ _ _ _) ?_
      show LeO (spec_l1All.l0 (k + 1) x1 x2 x9 x10 x11) _
      unfold spec_l1All.l0
      exact (LeO.dec (fun h0 => (LeO.tst fun h1 => (LeO.tst fun h2 => (LeO.rdI h1 h2 (LeO.bind (spec_l1In.f.br _ _ _) (fun y3 => (LeO.nob (fun h3 => (ih_l0 _ _ _ _ _)) (fun h3 => LeO.refl _)))))))) (fun h0 => LeO.refl _))
theorem spec_l1All.f.br (k : Nat) (x0 : List Int) (x1 : Int) (x2 : Int) : LeO (spec_l1All.f k x0 x1 x2) (S.spec_l1All.f x0 x1 x2) := by
  refine LeO.of (S.spec_l1All.f.eq _ _ _) ?_
  unfold spec_l1All.f
  have ih_l0 := (spec_l1All.br_l k)
  exact (ih_l0 _ _ _ _ _)
def spec_roBorn.f (k : Nat) (x0 : List Int) : Option (Bool) := (spec_l1In.f (x0.length : Int) 1 10).bind fun y2 => (if y2 = true then ((spec_l1All.f k x0 0 2900).bind fun y3 => (some y3)) else (some false))
theorem spec_roBorn.f.br (k : Nat) (x0 : List Int) : LeO (spec_roBorn.f k x0) (S.spec_roBorn.f x0) := by
  refine LeO.of (S.spec_roBorn.f.eq _) ?_
  unfold spec_roBorn.f
  exact (LeO.bind (spec_l1In.f.br _ _ _) (fun y2 => (LeO.ite' (fun h0 => (LeO.bind (spec_l1All.f.br k _ _ _) (fun y3 => LeO.refl _))) (fun h0 => LeO.refl _))))
def spec_roSpan.f (x0 : Int) (x1 : Int) : Option (Bool) := (spec_l1In.f x1 0 3000).bind fun y1 => (if y1 = true then ((spec_l1In.f x0 0 x1).bind fun y2 => (if y2 = true then (some (decide ((IntKind.i64.wrap (x1 - x0)) < 200))) else (some false))) else (some false))
theorem spec_roSpan.f.br (x0 : Int) (x1 : Int) : LeO (spec_roSpan.f x0 x1) (S.spec_roSpan.f x0 x1) := by
  refine LeO.of (S.spec_roSpan.f.eq _ _) ?_
  unfold spec_roSpan.f
  exact (LeO.bind (spec_l1In.f.br _ _ _) (fun y1 => (LeO.ite' (fun h0 => (LeO.bind (spec_l1In.f.br _ _ _) (fun y2 => (LeO.ite' (fun h1 => LeO.refl _) (fun h1 => LeO.refl _))))) (fun h0 => LeO.refl _))))
def spec_roEvery.f (x0 : Int) : Option (Bool) := (spec_l1In.f x0 1 100).bind fun y1 => (some y1)
theorem spec_roEvery.f.br (x0 : Int) : LeO (spec_roEvery.f x0) (S.spec_roEvery.f x0) := by
  refine LeO.of (S.spec_roEvery.f.eq _) ?_
  unfold spec_roEvery.f
  exact (LeO.bind (spec_l1In.f.br _ _ _) (fun y1 => LeO.refl _))
def spec_roAll.f (k : Nat) (x0 : List Int) (x1 : Int) (x2 : Int) (x3 : Int) : Option (Bool) := (spec_roBorn.f k x0).bind fun y1 => (if y1 = true then ((spec_roSpan.f x1 x2).bind fun y2 => (if y2 = true then ((spec_roEvery.f x3).bind fun y4 => (some y4)) else (some false))) else (some false))
theorem spec_roAll.f.br (k : Nat) (x0 : List Int) (x1 : Int) (x2 : Int) (x3 : Int) : LeO (spec_roAll.f k x0 x1 x2 x3) (S.spec_roAll.f x0 x1 x2 x3) := by
  refine LeO.of (S.spec_roAll.f.eq _ _ _ _) ?_
  unfold spec_roAll.f
  exact (LeO.bind (spec_roBorn.f.br k _) (fun y1 => (LeO.ite' (fun h0 => (LeO.bind (spec_roSpan.f.br _ _) (fun y2 => (LeO.ite' (fun h1 => (LeO.bind (spec_roEvery.f.br _) (fun y4 => LeO.refl _))) (fun h1 => LeO.refl _))))) (fun h0 => LeO.refl _))))
def spec_roAge.f (x0 : Int) (x1 : Int) : Option (Int) := (spec_l1In.f (IntKind.i64.wrap (x1 - x0)) 0 120).bind fun y2 => (if y2 = true then (some (IntKind.i64.wrap (x1 - x0))) else (some (-1)))
theorem spec_roAge.f.br (x0 : Int) (x1 : Int) : LeO (spec_roAge.f x0 x1) (S.spec_roAge.f x0 x1) := by
  refine LeO.of (S.spec_roAge.f.eq _ _) ?_
  unfold spec_roAge.f
  exact (LeO.bind (spec_l1In.f.br _ _ _) (fun y2 => (LeO.nob (fun h0 => LeO.refl _) (fun h0 => LeO.refl _))))
def spec_l1Most.f (x0 : Int) (x1 : Int) : Option (Int) := if x0 > x1 then (some x0) else (some x1)
theorem spec_l1Most.f.br (x0 : Int) (x1 : Int) : LeO (spec_l1Most.f x0 x1) (S.spec_l1Most.f x0 x1) := by
  refine LeO.of (S.spec_l1Most.f.eq _ _) ?_
  unfold spec_l1Most.f
  exact (LeO.dec (fun h0 => LeO.refl _) (fun h0 => LeO.refl _))
def spec_roSum.l0 : Nat → Int → Int → List Int → Int → Int → Option (Int)
  | 0, _, _, _, _, _ => none
  | k + 1, x1, x5, x8, x9, x10 => if x10 < x9 then (if 0 ≤ x10 then (if x10 < (x8.length : Int) then ((spec_roAge.f (rde x8 x10) x1).bind fun y3 => ((spec_l1Most.f 0 y3).bind fun y4 => (spec_roSum.l0 k x1 (IntKind.i64.wrap (x5 + y4)) x8 x9 (IntKind.i64.wrap (x10 + 1))))) else (none)) else (none)) else (some x5)
def spec_roSum.f (k : Nat) (x0 : List Int) (x1 : Int) : Option (Int) := spec_roSum.l0 k x1 0 x0 (x0.length : Int) 0
theorem spec_roSum.br_l : ∀ k, (∀ (x1 : Int) (x5 : Int) (x8 : List Int) (x9 : Int) (x10 : Int), LeO (spec_roSum.l0 k x1 x5 x8 x9 x10) (S.spec_roSum.l0 x1 x5 x8 x9 x10))
  | 0 => fun _ _ _ _ _ => LeO.none _
  | k + 1 => by
    have ih := spec_roSum.br_l k
    have ih_l0 := ih
    refine fun x1 x5 x8 x9 x10 => ?_
    · refine LeO.of (S.spec_roSum.l0.eq _ _ _ _ _) ?_
      show LeO (spec_roSum.l0 (k + 1) x1 x5 x8 x9 x10) _
      unfold spec_roSum.l0
      exact (LeO.dec (fun h0 => (LeO.tst fun h1 => (LeO.tst fun h2 => (LeO.rdI h1 h2 (LeO.bind (spec_roAge.f.br _ _) (fun y3 => (LeO.bind (spec_l1Most.f.br _ _) (fun y4 => (ih_l0 _ _ _ _ _))))))))) (fun h0 => LeO.refl _))
theorem spec_roSum.f.br (k : Nat) (x0 : List Int) (x1 : Int) : LeO (spec_roSum.f k x0 x1) (S.spec_roSum.f x0 x1) := by
  refine LeO.of (S.spec_roSum.f.eq _ _) ?_
  unfold spec_roSum.f
  have ih_l0 := (spec_roSum.br_l k)
  exact (ih_l0 _ _ _ _ _)
def spec_roRound.f (x0 : Int) (x1 : Int) : Option (Bool) := if x0 > 0 then (if x1 = 0 then (none) else (some ((x0.tmod x1) == 0))) else (some false)
theorem spec_roRound.f.br (x0 : Int) (x1 : Int) : LeO (spec_roRound.f x0 x1) (S.spec_roRound.f x0 x1) := by
  refine LeO.of (S.spec_roRound.f.eq _ _) ?_
  unfold spec_roRound.f
  exact (LeO.dec (fun h0 => (LeO.ite (LeO.none _) (LeO.refl _))) (fun h0 => LeO.refl _))
def spec_RoundSums.l0 : Nat → List Int → Int → Int → List Int → Int → Option ((List Int) × Bool)
  | 0, _, _, _, _, _ => none
  | k + 1, x0, x2, x3, x10, x11 => if x11 ≤ x2 then ((spec_roSum.f k x0 x11).bind fun y2 => ((spec_roRound.f y2 x3).bind fun y3 => (if y3 = true then (if x10.length < 17592186044416 then (spec_RoundSums.l0 k x0 x2 x3 (x10 ++ [x11]) (IntKind.i64.wrap (x11 + 1))) else (none)) else (spec_RoundSums.l0 k x0 x2 x3 x10 (IntKind.i64.wrap (x11 + 1)))))) else (some (x10, true))
def spec_RoundSums.f (k : Nat) (x0 : List Int) (x1 : Int) (x2 : Int) (x3 : Int) : Option ((List Int) × Bool) := (spec_roAll.f k x0 x1 x2 x3).bind fun y1 => (if y1 = true then (spec_RoundSums.l0 k x0 x2 x3 [] x1) else (some ([], false)))
theorem spec_RoundSums.br_l : ∀ k, (∀ (x0 : List Int) (x2 : Int) (x3 : Int) (x10 : List Int) (x11 : Int), LeO (spec_RoundSums.l0 k x0 x2 x3 x10 x11) (S.spec_RoundSums.l0 x0 x2 x3 x10 x11))
  | 0 => fun _ _ _ _ _ => LeO.none _
  | k + 1 => by
    have ih := spec_RoundSums.br_l k
    have ih_l0 := ih
    refine fun x0 x2 x3 x10 x11 => ?_
    · refine LeO.of (S.spec_RoundSums.l0.eq _ _ _ _ _) ?_
      show LeO (spec_RoundSums.l0 (k + 1) x0 x2 x3 x10 x11) _
      unfold spec_RoundSums.l0
      exact (LeO.dec (fun h0 => (LeO.bind (spec_roSum.f.br k _ _) (fun y2 => (LeO.bind (spec_roRound.f.br _ _) (fun y3 => (LeO.ite' (fun h1 => (LeO.tst fun h2 => (LeO.cat1 h2 (ih_l0 _ _ _ _ _)))) (fun h1 => (ih_l0 _ _ _ _ _)))))))) (fun h0 => LeO.refl _))
theorem spec_RoundSums.f.br (k : Nat) (x0 : List Int) (x1 : Int) (x2 : Int) (x3 : Int) : LeO (spec_RoundSums.f k x0 x1 x2 x3) (S.spec_RoundSums.f x0 x1 x2 x3) := by
  refine LeO.of (S.spec_RoundSums.f.eq _ _ _ _) ?_
  unfold spec_RoundSums.f
  have ih_l0 := (spec_RoundSums.br_l k)
  exact (LeO.bind (spec_roAll.f.br k _ _ _ _) (fun y1 => (LeO.nob (fun h0 => (ih_l0 _ _ _ _ _)) (fun h0 => LeO.refl _))))
def laws_qSame.l0 : Nat → List Int → List Int → Int → Int → Option (Bool)
  | 0, _, _, _, _ => none
  | k + 1, x0, x1, x12, x13 => if x13 < x12 then (if 0 ≤ x13 then (if x13 < (x0.length : Int) then (if x13 < (x1.length : Int) then (if (rde x0 x13) = (rde x1 x13) then (laws_qSame.l0 k x0 x1 x12 (IntKind.i64.wrap (x13 + 1))) else (some false)) else (none)) else (none)) else (none)) else (some true)
def laws_qSame.f (k : Nat) (x0 : List Int) (x1 : List Int) : Option (Bool) := if (x0.length : Int) = (x1.length : Int) then (laws_qSame.l0 k x0 x1 (x0.length : Int) 0) else (some false)
theorem laws_qSame.br_l : ∀ k, (∀ (x0 : List Int) (x1 : List Int) (x12 : Int) (x13 : Int), LeO (laws_qSame.l0 k x0 x1 x12 x13) (S.laws_qSame.l0 x0 x1 x12 x13))
  | 0 => fun _ _ _ _ => LeO.none _
  | k + 1 => by
    have ih := laws_qSame.br_l k
    have ih_l0 := ih
    refine fun x0 x1 x12 x13 => ?_
    · refine LeO.of (S.laws_qSame.l0.eq _ _ _ _) ?_
      show LeO (laws_qSame.l0 (k + 1) x0 x1 x12 x13) _
      unfold laws_qSame.l0
      exact (LeO.dec (fun h0 => (LeO.tst fun h1 => (LeO.tst fun h2 => (LeO.rdI h1 h2 (LeO.tst fun h3 => (LeO.rdI h1 h3 (LeO.bne (fun h4 => (ih_l0 _ _ _ _)) (fun h4 => LeO.refl _)))))))) (fun h0 => LeO.refl _))
theorem laws_qSame.f.br (k : Nat) (x0 : List Int) (x1 : List Int) : LeO (laws_qSame.f k x0 x1) (S.laws_qSame.f x0 x1) := by
  refine LeO.of (S.laws_qSame.f.eq _ _) ?_
  unfold laws_qSame.f
  have ih_l0 := (laws_qSame.br_l k)
  exact (LeO.bne (fun h0 => (ih_l0 _ _ _ _)) (fun h0 => LeO.refl _))
def laws_qRises.l0 : Nat → List Int → Int → Option (Bool)
  | 0, _, _ => none
  | k + 1, x0, x3 => if x3 < (x0.length : Int) then (if 0 ≤ (IntKind.i64.wrap (x3 - 1)) then (if (IntKind.i64.wrap (x3 - 1)) < (x0.length : Int) then (if 0 ≤ x3 then (if (rde x0 (IntKind.i64.wrap (x3 - 1))) ≥ (rde x0 x3) then (some false) else (laws_qRises.l0 k x0 (IntKind.i64.wrap (x3 + 1)))) else (none)) else (none)) else (none)) else (some true)
def laws_qRises.f (k : Nat) (x0 : List Int) : Option (Bool) := laws_qRises.l0 k x0 1
theorem laws_qRises.br_l : ∀ k, (∀ (x0 : List Int) (x3 : Int), LeO (laws_qRises.l0 k x0 x3) (S.laws_qRises.l0 x0 x3))
  | 0 => fun _ _ => LeO.none _
  | k + 1 => by
    have ih := laws_qRises.br_l k
    have ih_l0 := ih
    refine fun x0 x3 => ?_
    · refine LeO.of (S.laws_qRises.l0.eq _ _) ?_
      show LeO (laws_qRises.l0 (k + 1) x0 x3) _
      unfold laws_qRises.l0
      exact (LeO.dec (fun h0 => (LeO.tst fun h1 => (LeO.tst fun h2 => (LeO.rdI h1 h2 (LeO.tst fun h3 => (LeO.rdI h3 h0 (LeO.dec (fun h4 => LeO.refl _) (fun h4 => (ih_l0 _ _))))))))) (fun h0 => LeO.refl _))
theorem laws_qRises.f.br (k : Nat) (x0 : List Int) : LeO (laws_qRises.f k x0) (S.laws_qRises.f x0) := by
  refine LeO.of (S.laws_qRises.f.eq _) ?_
  unfold laws_qRises.f
  have ih_l0 := (laws_qRises.br_l k)
  exact (ih_l0 _ _)
def impl_SumOfAges.f (k : Nat) (x0 : List Int) (x1 : Int) : Option (Int × Bool) := (impl_AreBirths.f x0).bind fun y1 => (if y1 = true then ((impl_isYear.f x1).bind fun y2 => (if y2 = true then ((impl_sumOfAges.f k x0 x1).bind fun y4 => (some (y4, true))) else (some (0, false)))) else (some (0, false)))
theorem impl_SumOfAges.f.br (k : Nat) (x0 : List Int) (x1 : Int) : LeO (impl_SumOfAges.f k x0 x1) (S.impl_SumOfAges.f x0 x1) := by
  refine LeO.of (S.impl_SumOfAges.f.eq _ _) ?_
  unfold impl_SumOfAges.f
  exact (LeO.bind (impl_AreBirths.f.br _) (fun y1 => (LeO.nob (fun h0 => (LeO.bind (impl_isYear.f.br _) (fun y2 => (LeO.nob (fun h1 => (LeO.bind (impl_sumOfAges.f.br k _ _) (fun y4 => LeO.refl _))) (fun h1 => LeO.refl _))))) (fun h0 => LeO.refl _))))
def laws_qHas.l0 : Nat → Int → List Int → Int → Int → Option (Bool)
  | 0, _, _, _, _ => none
  | k + 1, x1, x7, x8, x9 => if x9 < x8 then (if 0 ≤ x9 then (if x9 < (x7.length : Int) then (if (rde x7 x9) = x1 then (some true) else (laws_qHas.l0 k x1 x7 x8 (IntKind.i64.wrap (x9 + 1)))) else (none)) else (none)) else (some false)
def laws_qHas.f (k : Nat) (x0 : List Int) (x1 : Int) : Option (Bool) := laws_qHas.l0 k x1 x0 (x0.length : Int) 0
theorem laws_qHas.br_l : ∀ k, (∀ (x1 : Int) (x7 : List Int) (x8 : Int) (x9 : Int), LeO (laws_qHas.l0 k x1 x7 x8 x9) (S.laws_qHas.l0 x1 x7 x8 x9))
  | 0 => fun _ _ _ _ => LeO.none _
  | k + 1 => by
    have ih := laws_qHas.br_l k
    have ih_l0 := ih
    refine fun x1 x7 x8 x9 => ?_
    · refine LeO.of (S.laws_qHas.l0.eq _ _ _ _) ?_
      show LeO (laws_qHas.l0 (k + 1) x1 x7 x8 x9) _
      unfold laws_qHas.l0
      exact (LeO.dec (fun h0 => (LeO.tst fun h1 => (LeO.tst fun h2 => (LeO.rdI h1 h2 (LeO.beq (fun h3 => LeO.refl _) (fun h3 => (ih_l0 _ _ _ _))))))) (fun h0 => LeO.refl _))
theorem laws_qHas.f.br (k : Nat) (x0 : List Int) (x1 : Int) : LeO (laws_qHas.f k x0 x1) (S.laws_qHas.f x0 x1) := by
  refine LeO.of (S.laws_qHas.f.eq _ _) ?_
  unfold laws_qHas.f
  have ih_l0 := (laws_qHas.br_l k)
  exact (ih_l0 _ _ _ _)
def spec_DrawSumOfAges.f (k : Nat) (x0 : List Int) : Option ((List Int) × Int) := (spec_l1Cur_born.f k x0 0 0).bind fun y1 => ((spec_l1Cur_year.f y1.2.1 y1.2.2.1 y1.2.2.2).bind fun y2 => (some (y1.1, y2.1)))
theorem spec_DrawSumOfAges.f.br (k : Nat) (x0 : List Int) : LeO (spec_DrawSumOfAges.f k x0) (S.spec_DrawSumOfAges.f x0) := by
  refine LeO.of (S.spec_DrawSumOfAges.f.eq _) ?_
  unfold spec_DrawSumOfAges.f
  exact (LeO.bind (spec_l1Cur_born.f.br k _ _ _) (fun y1 => (LeO.bind (spec_l1Cur_year.f.br _ _ _) (fun y2 => LeO.refl _))))
def spec_roYear.f (k : Nat) (x0 : List Int) (x1 : Int) : Option (Bool) := (spec_roBorn.f k x0).bind fun y1 => (if y1 = true then ((spec_l1In.f x1 0 3000).bind fun y2 => (some y2)) else (some false))
theorem spec_roYear.f.br (k : Nat) (x0 : List Int) (x1 : Int) : LeO (spec_roYear.f k x0 x1) (S.spec_roYear.f x0 x1) := by
  refine LeO.of (S.spec_roYear.f.eq _ _) ?_
  unfold spec_roYear.f
  exact (LeO.bind (spec_roBorn.f.br k _) (fun y1 => (LeO.ite' (fun h0 => (LeO.bind (spec_l1In.f.br _ _ _) (fun y2 => LeO.refl _))) (fun h0 => LeO.refl _))))
def spec_SumOfAges.f (k : Nat) (x0 : List Int) (x1 : Int) : Option (Int × Bool) := (spec_roYear.f k x0 x1).bind fun y1 => (if y1 = true then ((spec_roSum.f k x0 x1).bind fun y2 => (some (y2, true))) else (some (0, false)))
theorem spec_SumOfAges.f.br (k : Nat) (x0 : List Int) (x1 : Int) : LeO (spec_SumOfAges.f k x0 x1) (S.spec_SumOfAges.f x0 x1) := by
  refine LeO.of (S.spec_SumOfAges.f.eq _ _) ?_
  unfold spec_SumOfAges.f
  exact (LeO.bind (spec_roYear.f.br k _ _) (fun y1 => (LeO.nob (fun h0 => (LeO.bind (spec_roSum.f.br k _ _) (fun y2 => LeO.refl _))) (fun h0 => LeO.refl _))))
def impl_divisor.l0 : Nat → Int → Int → Option (Int)
  | 0, _, _ => none
  | k + 1, x0, x1 => if x1 = 0 then (some (mx2 x0 (IntKind.i64.wrap (0 - x0)))) else (if x1 = 0 then (none) else (impl_divisor.l0 k x1 (x0.tmod x1)))
def impl_divisor.f (k : Nat) (x0 : Int) (x1 : Int) : Option (Int) := impl_divisor.l0 k x0 x1
theorem impl_divisor.br_l : ∀ k, (∀ (x0 : Int) (x1 : Int), LeO (impl_divisor.l0 k x0 x1) (S.impl_divisor.l0 x0 x1))
  | 0 => fun _ _ => LeO.none _
  | k + 1 => by
    have ih := impl_divisor.br_l k
    have ih_l0 := ih
    refine fun x0 x1 => ?_
    · refine LeO.of (S.impl_divisor.l0.eq _ _) ?_
      show LeO (impl_divisor.l0 (k + 1) x0 x1) _
      unfold impl_divisor.l0
      exact (LeO.bne (fun h0 => LeO.refl _) (fun h0 => (LeO.ite (LeO.none _) (ih_l0 _ _))))
theorem impl_divisor.f.br (k : Nat) (x0 : Int) (x1 : Int) : LeO (impl_divisor.f k x0 x1) (S.impl_divisor.f x0 x1) := by
  refine LeO.of (S.impl_divisor.f.eq _ _) ?_
  unfold impl_divisor.f
  have ih_l0 := (impl_divisor.br_l k)
  exact (ih_l0 _ _)
mutual
def impl_SharedEvery.j0 : Nat → List Int → Int → Bool → Option (Int × Bool)
  | 0, _, _, _ => none
  | k + 1, x0, x1, x18 => if x18 = true then (some (0, false)) else (impl_SharedEvery.l0 k x1 0 x0 (x0.length : Int) 0)
def impl_SharedEvery.l0 : Nat → Int → Int → List Int → Int → Int → Option (Int × Bool)
  | 0, _, _, _, _, _ => none
  | k + 1, x1, x6, x19, x20, x21 => if x21 < x20 then (if 0 ≤ x21 then (if x21 < (x19.length : Int) then ((impl_ageIn.f (rde x19 x21) x1).bind fun y3 => (if y3.2 = true then ((impl_divisor.f k x6 y3.1).bind fun y4 => (impl_SharedEvery.l0 k x1 y4 x19 x20 (IntKind.i64.wrap (x21 + 1)))) else (some (0, false)))) else (none)) else (none)) else (some (x6, (decide (x6 > 0))))
end
def impl_SharedEvery.f (k : Nat) (x0 : List Int) (x1 : Int) : Option (Int × Bool) := (impl_AreBirths.f x0).bind fun y1 => (if y1 = true then ((impl_isYear.f x1).bind fun y7 => (impl_SharedEvery.j0 k x0 x1 (!y7))) else (impl_SharedEvery.j0 k x0 x1 true))
theorem impl_SharedEvery.br_l : ∀ k, (∀ (x0 : List Int) (x1 : Int) (x18 : Bool), LeO (impl_SharedEvery.j0 k x0 x1 x18) (S.impl_SharedEvery.j0 x0 x1 x18)) ∧ (∀ (x1 : Int) (x6 : Int) (x19 : List Int) (x20 : Int) (x21 : Int), LeO (impl_SharedEvery.l0 k x1 x6 x19 x20 x21) (S.impl_SharedEvery.l0 x1 x6 x19 x20 x21))
  | 0 => ⟨fun _ _ _ => LeO.none _, fun _ _ _ _ _ => LeO.none _⟩
  | k + 1 => by
    have ih := impl_SharedEvery.br_l k
    obtain ⟨ih_j0, ih_l0⟩ := ih
    refine ⟨fun x0 x1 x18 => ?_, fun x1 x6 x19 x20 x21 => ?_⟩
    · refine LeO.of (S.impl_SharedEvery.j0.eq _ _ _) ?_
      unfold impl_SharedEvery.j0
      exact (LeO.ite' (fun h0 => LeO.refl _) (fun h0 => (ih_l0 _ _ _ _ _)))
    · refine LeO.of (S.impl_SharedEvery.l0.eq _ _ _ _ _) ?_
      unfold impl_SharedEvery.l0
      exact (LeO.dec (fun h0 => (LeO.tst fun h1 => (LeO.tst fun h2 => (LeO.rdI h1 h2 (LeO.bind (impl_ageIn.f.br _ _) (fun y3 => (LeO.nob (fun h3 => (LeO.bind (impl_divisor.f.br k _ _) (fun y4 => (ih_l0 _ _ _ _ _)))) (fun h3 => LeO.refl _)))))))) (fun h0 => LeO.refl _))
theorem impl_SharedEvery.f.br (k : Nat) (x0 : List Int) (x1 : Int) : LeO (impl_SharedEvery.f k x0 x1) (S.impl_SharedEvery.f x0 x1) := by
  refine LeO.of (S.impl_SharedEvery.f.eq _ _) ?_
  unfold impl_SharedEvery.f
  have ih_j0 := (impl_SharedEvery.br_l k).1
  exact (LeO.bind (impl_AreBirths.f.br _) (fun y1 => (LeO.nob (fun h0 => (LeO.bind (impl_isYear.f.br _) (fun y7 => (ih_j0 _ _ _)))) (fun h0 => (ih_j0 _ _ _)))))
mutual
def spec_SharedEvery.l0 : Nat → Int → Int → List Int → Int → Int → Option (Int × Bool)
  | 0, _, _, _, _, _ => none
  | k + 1, x1, x6, x16, x17, x18 => if x18 < x17 then (if 0 ≤ x18 then (if x18 < (x16.length : Int) then ((spec_roAge.f (rde x16 x18) x1).bind fun y3 => (if y3 < 0 then (some (0, false)) else (spec_SharedEvery.l1 k x1 y3 x6 x16 x17 x18))) else (none)) else (none)) else (if x6 = 0 then (some (0, false)) else (some (x6, true)))
def spec_SharedEvery.l1 : Nat → Int → Int → Int → List Int → Int → Int → Option (Int × Bool)
  | 0, _, _, _, _, _, _ => none
  | k + 1, x1, x10, x11, x16, x17, x18 => if x11 > 0 then (if x11 = 0 then (none) else (spec_SharedEvery.l1 k x1 x11 (x10.tmod x11) x16 x17 x18)) else (spec_SharedEvery.l0 k x1 x10 x16 x17 (IntKind.i64.wrap (x18 + 1)))
end
def spec_SharedEvery.f (k : Nat) (x0 : List Int) (x1 : Int) : Option (Int × Bool) := (spec_roYear.f k x0 x1).bind fun y1 => (if y1 = true then (spec_SharedEvery.l0 k x1 0 x0 (x0.length : Int) 0) else (some (0, false)))
theorem spec_SharedEvery.br_l : ∀ k, (∀ (x1 : Int) (x6 : Int) (x16 : List Int) (x17 : Int) (x18 : Int), LeO (spec_SharedEvery.l0 k x1 x6 x16 x17 x18) (S.spec_SharedEvery.l0 x1 x6 x16 x17 x18)) ∧ (∀ (x1 : Int) (x10 : Int) (x11 : Int) (x16 : List Int) (x17 : Int) (x18 : Int), LeO (spec_SharedEvery.l1 k x1 x10 x11 x16 x17 x18) (S.spec_SharedEvery.l1 x1 x10 x11 x16 x17 x18))
  | 0 => ⟨fun _ _ _ _ _ => LeO.none _, fun _ _ _ _ _ _ => LeO.none _⟩
  | k + 1 => by
    have ih := spec_SharedEvery.br_l k
    obtain ⟨ih_l0, ih_l1⟩ := ih
    refine ⟨fun x1 x6 x16 x17 x18 => ?_, fun x1 x10 x11 x16 x17 x18 => ?_⟩
    · refine LeO.of (S.spec_SharedEvery.l0.eq _ _ _ _ _) ?_
      unfold spec_SharedEvery.l0
      exact (LeO.dec (fun h0 => (LeO.tst fun h1 => (LeO.tst fun h2 => (LeO.rdI h1 h2 (LeO.bind (spec_roAge.f.br _ _) (fun y3 => (LeO.dec (fun h3 => LeO.refl _) (fun h3 => (ih_l1 _ _ _ _ _ _))))))))) (fun h0 => (LeO.beq (fun h1 => LeO.refl _) (fun h1 => LeO.refl _))))
    · refine LeO.of (S.spec_SharedEvery.l1.eq _ _ _ _ _ _) ?_
      unfold spec_SharedEvery.l1
      exact (LeO.dec (fun h0 => (LeO.ite (LeO.none _) (ih_l1 _ _ _ _ _ _))) (fun h0 => (ih_l0 _ _ _ _ _)))
theorem spec_SharedEvery.f.br (k : Nat) (x0 : List Int) (x1 : Int) : LeO (spec_SharedEvery.f k x0 x1) (S.spec_SharedEvery.f x0 x1) := by
  refine LeO.of (S.spec_SharedEvery.f.eq _ _) ?_
  unfold spec_SharedEvery.f
  have ih_l0 := (spec_SharedEvery.br_l k).1
  exact (LeO.bind (spec_roYear.f.br k _ _) (fun y1 => (LeO.nob (fun h0 => (ih_l0 _ _ _ _ _)) (fun h0 => LeO.refl _))))
def spec_DrawYearOfSum.f (k : Nat) (x0 : List Int) : Option ((List Int) × Int) := (spec_l1Cur_one.f x0 0 0 8).bind fun y1 => (if y1.1 = true then ((spec_l1Cur_born.f k y1.2.1 y1.2.2.1 y1.2.2.2).bind fun y2 => ((spec_l1Cur_among.f y2.2.1 y2.2.2.1 y2.2.2.2 [(-1), 0, 1, 1000, 1001]).bind fun y3 => (some (y2.1, y3.1)))) else ((spec_l1Cur_born.f k y1.2.1 y1.2.2.1 y1.2.2.2).bind fun y4 => ((spec_l1Cur_pick.f y4.2.1 y4.2.2.1 y4.2.2.2 250).bind fun y5 => (some (y4.1, (IntKind.i64.wrap (1 + y5.1)))))))
theorem spec_DrawYearOfSum.f.br (k : Nat) (x0 : List Int) : LeO (spec_DrawYearOfSum.f k x0) (S.spec_DrawYearOfSum.f x0) := by
  refine LeO.of (S.spec_DrawYearOfSum.f.eq _) ?_
  unfold spec_DrawYearOfSum.f
  exact (LeO.bind (spec_l1Cur_one.f.br _ _ _ _) (fun y1 => (LeO.ite' (fun h0 => (LeO.bind (spec_l1Cur_born.f.br k _ _ _) (fun y2 => (LeO.bind (spec_l1Cur_among.f.br _ _ _ _) (fun y3 => LeO.refl _))))) (fun h0 => (LeO.bind (spec_l1Cur_born.f.br k _ _ _) (fun y4 => (LeO.bind (spec_l1Cur_pick.f.br _ _ _ _) (fun y5 => LeO.refl _))))))))
mutual
def impl_YearOfSum.j0 : Nat → List Int → Int → Bool → Option (Int × Bool)
  | 0, _, _, _ => none
  | k + 1, x0, x1, x14 => if x14 = true then (some (0, false)) else (impl_YearOfSum.l0 k x0 x1 0)
def impl_YearOfSum.l0 : Nat → List Int → Int → Int → Option (Int × Bool)
  | 0, _, _, _ => none
  | k + 1, x0, x1, x15 => if x15 < 3001 then ((impl_sumOfAges.f k x0 x15).bind fun y2 => (if y2 ≥ x1 then (some (x15, true)) else (impl_YearOfSum.l0 k x0 x1 (IntKind.i64.wrap (x15 + 1))))) else (some (0, false))
end
def impl_YearOfSum.f (k : Nat) (x0 : List Int) (x1 : Int) : Option (Int × Bool) := (impl_AreBirths.f x0).bind fun y1 => (if y1 = true then ((impl_between.f x1 1 1000).bind fun y5 => (impl_YearOfSum.j0 k x0 x1 (!y5))) else (impl_YearOfSum.j0 k x0 x1 true))
theorem impl_YearOfSum.br_l : ∀ k, (∀ (x0 : List Int) (x1 : Int) (x14 : Bool), LeO (impl_YearOfSum.j0 k x0 x1 x14) (S.impl_YearOfSum.j0 x0 x1 x14)) ∧ (∀ (x0 : List Int) (x1 : Int) (x15 : Int), LeO (impl_YearOfSum.l0 k x0 x1 x15) (S.impl_YearOfSum.l0 x0 x1 x15))
  | 0 => ⟨fun _ _ _ => LeO.none _, fun _ _ _ => LeO.none _⟩
  | k + 1 => by
    have ih := impl_YearOfSum.br_l k
    obtain ⟨ih_j0, ih_l0⟩ := ih
    refine ⟨fun x0 x1 x14 => ?_, fun x0 x1 x15 => ?_⟩
    · refine LeO.of (S.impl_YearOfSum.j0.eq _ _ _) ?_
      unfold impl_YearOfSum.j0
      exact (LeO.ite' (fun h0 => LeO.refl _) (fun h0 => (ih_l0 _ _ _)))
    · refine LeO.of (S.impl_YearOfSum.l0.eq _ _ _) ?_
      unfold impl_YearOfSum.l0
      exact (LeO.dec (fun h0 => (LeO.bind (impl_sumOfAges.f.br k _ _) (fun y2 => (LeO.dec (fun h1 => LeO.refl _) (fun h1 => (ih_l0 _ _ _)))))) (fun h0 => LeO.refl _))
theorem impl_YearOfSum.f.br (k : Nat) (x0 : List Int) (x1 : Int) : LeO (impl_YearOfSum.f k x0 x1) (S.impl_YearOfSum.f x0 x1) := by
  refine LeO.of (S.impl_YearOfSum.f.eq _ _) ?_
  unfold impl_YearOfSum.f
  have ih_j0 := (impl_YearOfSum.br_l k).1
  exact (LeO.bind (impl_AreBirths.f.br _) (fun y1 => (LeO.nob (fun h0 => (LeO.bind (impl_between.f.br _ _ _) (fun y5 => (ih_j0 _ _ _)))) (fun h0 => (ih_j0 _ _ _)))))
mutual
def spec_YearOfSum.j0 : Nat → List Int → Int → Bool → Option (Int × Bool)
  | 0, _, _, _ => none
  | k + 1, x0, x1, x14 => if x14 = true then (some (0, false)) else (spec_YearOfSum.l0 k x0 x1 0)
def spec_YearOfSum.l0 : Nat → List Int → Int → Int → Option (Int × Bool)
  | 0, _, _, _ => none
  | k + 1, x0, x1, x6 => if x6 ≤ 3000 then ((spec_roSum.f k x0 x6).bind fun y2 => (if y2 ≥ x1 then (some (x6, true)) else (spec_YearOfSum.l0 k x0 x1 (IntKind.i64.wrap (x6 + 1))))) else (some (0, false))
end
def spec_YearOfSum.f (k : Nat) (x0 : List Int) (x1 : Int) : Option (Int × Bool) := (spec_roBorn.f k x0).bind fun y1 => (if y1 = true then ((spec_l1In.f x1 1 1000).bind fun y5 => (spec_YearOfSum.j0 k x0 x1 (!y5))) else (spec_YearOfSum.j0 k x0 x1 true))
theorem spec_YearOfSum.br_l : ∀ k, (∀ (x0 : List Int) (x1 : Int) (x14 : Bool), LeO (spec_YearOfSum.j0 k x0 x1 x14) (S.spec_YearOfSum.j0 x0 x1 x14)) ∧ (∀ (x0 : List Int) (x1 : Int) (x6 : Int), LeO (spec_YearOfSum.l0 k x0 x1 x6) (S.spec_YearOfSum.l0 x0 x1 x6))
  | 0 => ⟨fun _ _ _ => LeO.none _, fun _ _ _ => LeO.none _⟩
  | k + 1 => by
    have ih := spec_YearOfSum.br_l k
    obtain ⟨ih_j0, ih_l0⟩ := ih
    refine ⟨fun x0 x1 x14 => ?_, fun x0 x1 x6 => ?_⟩
    · refine LeO.of (S.spec_YearOfSum.j0.eq _ _ _) ?_
      unfold spec_YearOfSum.j0
      exact (LeO.ite' (fun h0 => LeO.refl _) (fun h0 => (ih_l0 _ _ _)))
    · refine LeO.of (S.spec_YearOfSum.l0.eq _ _ _) ?_
      unfold spec_YearOfSum.l0
      exact (LeO.dec (fun h0 => (LeO.bind (spec_roSum.f.br k _ _) (fun y2 => (LeO.dec (fun h1 => LeO.refl _) (fun h1 => (ih_l0 _ _ _)))))) (fun h0 => LeO.refl _))
theorem spec_YearOfSum.f.br (k : Nat) (x0 : List Int) (x1 : Int) : LeO (spec_YearOfSum.f k x0 x1) (S.spec_YearOfSum.f x0 x1) := by
  refine LeO.of (S.spec_YearOfSum.f.eq _ _) ?_
  unfold spec_YearOfSum.f
  have ih_j0 := (spec_YearOfSum.br_l k).1
  exact (LeO.bind (spec_roBorn.f.br k _) (fun y1 => (LeO.nob (fun h0 => (LeO.bind (spec_l1In.f.br _ _ _) (fun y5 => (ih_j0 _ _ _)))) (fun h0 => (ih_j0 _ _ _)))))
def spec_DrawBestEvery.f (k : Nat) (x0 : List Int) : Option ((List Int) × Int × Int) := (spec_l1Cur_born.f k x0 0 0).bind fun y1 => ((spec_l1Cur_year.f y1.2.1 y1.2.2.1 y1.2.2.2).bind fun y2 => ((spec_l1Cur_among.f y2.2.1 y2.2.2.1 y2.2.2.2 [2, 5, 10, 10, 25, 100, 101, 1, 0]).bind fun y3 => (some (y1.1, y2.1, y3.1))))
theorem spec_DrawBestEvery.f.br (k : Nat) (x0 : List Int) : LeO (spec_DrawBestEvery.f k x0) (S.spec_DrawBestEvery.f x0) := by
  refine LeO.of (S.spec_DrawBestEvery.f.eq _) ?_
  unfold spec_DrawBestEvery.f
  exact (LeO.bind (spec_l1Cur_born.f.br k _ _ _) (fun y1 => (LeO.bind (spec_l1Cur_year.f.br _ _ _) (fun y2 => (LeO.bind (spec_l1Cur_among.f.br _ _ _ _) (fun y3 => LeO.refl _))))))
def impl_jubilees.l0 : Nat → Int → Int → List Int → List Int → Int → Int → Option (List Int)
  | 0, _, _, _, _, _, _ => none
  | k + 1, x1, x2, x7, x13, x14, x15 => if x15 < x14 then (if 0 ≤ x15 then (if x15 < (x13.length : Int) then ((impl_ageIn.f (rde x13 x15) x1).bind fun y3 => (if y3.2 = true then ((impl_isRound.f y3.1 x2).bind fun y4 => (if y4 = true then (if x7.length < 17592186044416 then (impl_jubilees.l0 k x1 x2 (x7 ++ [x15]) x13 x14 (IntKind.i64.wrap (x15 + 1))) else (none)) else (impl_jubilees.l0 k x1 x2 x7 x13 x14 (IntKind.i64.wrap (x15 + 1))))) else (impl_jubilees.l0 k x1 x2 x7 x13 x14 (IntKind.i64.wrap (x15 + 1))))) else (none)) else (none)) else (some x7)
def impl_jubilees.f (k : Nat) (x0 : List Int) (x1 : Int) (x2 : Int) : Option (List Int) := impl_jubilees.l0 k x1 x2 [] x0 (x0.length : Int) 0
theorem impl_jubilees.br_l : ∀ k, (∀ (x1 : Int) (x2 : Int) (x7 : List Int) (x13 : List Int) (x14 : Int) (x15 : Int), LeO (impl_jubilees.l0 k x1 x2 x7 x13 x14 x15) (S.impl_jubilees.l0 x1 x2 x7 x13 x14 x15))
  | 0 => fun _ _ _ _ _ _ => LeO.none _
  | k + 1 => by
    have ih := impl_jubilees.br_l k
    have ih_l0 := ih
    refine fun x1 x2 x7 x13 x14 x15 => ?_
    · refine LeO.of (S.impl_jubilees.l0.eq _ _ _ _ _ _) ?_
      show LeO (impl_jubilees.l0 (k + 1) x1 x2 x7 x13 x14 x15) _
      unfold impl_jubilees.l0
      exact (LeO.dec (fun h0 => (LeO.tst fun h1 => (LeO.tst fun h2 => (LeO.rdI h1 h2 (LeO.bind (impl_ageIn.f.br _ _) (fun y3 => (LeO.ite' (fun h3 => (LeO.bind (impl_isRound.f.br _ _) (fun y4 => (LeO.ite' (fun h4 => (LeO.tst fun h5 => (LeO.cat1 h5 (ih_l0 _ _ _ _ _ _)))) (fun h4 => (ih_l0 _ _ _ _ _ _)))))) (fun h3 => (ih_l0 _ _ _ _ _ _))))))))) (fun h0 => LeO.refl _))
theorem impl_jubilees.f.br (k : Nat) (x0 : List Int) (x1 : Int) (x2 : Int) : LeO (impl_jubilees.f k x0 x1 x2) (S.impl_jubilees.f x0 x1 x2) := by
  refine LeO.of (S.impl_jubilees.f.eq _ _ _) ?_
  unfold impl_jubilees.f
  have ih_l0 := (impl_jubilees.br_l k)
  exact (ih_l0 _ _ _ _ _ _)
mutual
def impl_BestEvery.j0 : Nat → List Int → Int → Int → Bool → Option (Int × Int × Bool)
  | 0, _, _, _, _ => none
  | k + 1, x0, x1, x2, x25 => if x25 = true then (some (0, 0, false)) else (impl_BestEvery.l0 k x0 x1 x2 0 (-1) 2)
def impl_BestEvery.l0 : Nat → List Int → Int → Int → Int → Int → Int → Option (Int × Int × Bool)
  | 0, _, _, _, _, _, _ => none
  | k + 1, x0, x1, x2, x9, x10, x11 => if x11 ≤ x2 then ((impl_jubilees.f k x0 x1 x11).bind fun y2 => (if (y2.length : Int) ≥ x10 then (impl_BestEvery.l0 k x0 x1 x2 x11 (y2.length : Int) (IntKind.i64.wrap (x11 + 1))) else (impl_BestEvery.l0 k x0 x1 x2 x9 x10 (IntKind.i64.wrap (x11 + 1))))) else (some (x9, x10, true))
end
def impl_BestEvery.f (k : Nat) (x0 : List Int) (x1 : Int) (x2 : Int) : Option (Int × Int × Bool) := (impl_AreBirths.f x0).bind fun y1 => (if y1 = true then ((impl_isYear.f x1).bind fun y7 => (if y7 = true then ((impl_between.f x2 2 100).bind fun y9 => (impl_BestEvery.j0 k x0 x1 x2 (!y9))) else (impl_BestEvery.j0 k x0 x1 x2 true))) else (impl_BestEvery.j0 k x0 x1 x2 true))
theorem impl_BestEvery.br_l : ∀ k, (∀ (x0 : List Int) (x1 : Int) (x2 : Int) (x25 : Bool), LeO (impl_BestEvery.j0 k x0 x1 x2 x25) (S.impl_BestEvery.j0 x0 x1 x2 x25)) ∧ (∀ (x0 : List Int) (x1 : Int) (x2 : Int) (x9 : Int) (x10 : Int) (x11 : Int), LeO (impl_BestEvery.l0 k x0 x1 x2 x9 x10 x11) (S.impl_BestEvery.l0 x0 x1 x2 x9 x10 x11))
  | 0 => ⟨fun _ _ _ _ => LeO.none _, fun _ _ _ _ _ _ => LeO.none _⟩
  | k + 1 => by
    have ih := impl_BestEvery.br_l k
    obtain ⟨ih_j0, ih_l0⟩ := ih
    refine ⟨fun x0 x1 x2 x25 => ?_, fun x0 x1 x2 x9 x10 x11 => ?_⟩
    · refine LeO.of (S.impl_BestEvery.j0.eq _ _ _ _) ?_
      unfold impl_BestEvery.j0
      exact (LeO.ite' (fun h0 => LeO.refl _) (fun h0 => (ih_l0 _ _ _ _ _ _)))
    · refine LeO.of (S.impl_BestEvery.l0.eq _ _ _ _ _ _) ?_
      unfold impl_BestEvery.l0
      exact (LeO.dec (fun h0 => (LeO.bind (impl_jubilees.f.br k _ _ _) (fun y2 => (LeO.dec (fun h1 => (ih_l0 _ _ _ _ _ _)) (fun h1 => (ih_l0 _ _ _ _ _ _)))))) (fun h0 => LeO.refl _))
theorem impl_BestEvery.f.br (k : Nat) (x0 : List Int) (x1 : Int) (x2 : Int) : LeO (impl_BestEvery.f k x0 x1 x2) (S.impl_BestEvery.f x0 x1 x2) := by
  refine LeO.of (S.impl_BestEvery.f.eq _ _ _) ?_
  unfold impl_BestEvery.f
  have ih_j0 := (impl_BestEvery.br_l k).1
  exact (LeO.bind (impl_AreBirths.f.br _) (fun y1 => (LeO.nob (fun h0 => (LeO.bind (impl_isYear.f.br _) (fun y7 => (LeO.nob (fun h1 => (LeO.bind (impl_between.f.br _ _ _) (fun y9 => (ih_j0 _ _ _ _)))) (fun h1 => (ih_j0 _ _ _ _)))))) (fun h0 => (ih_j0 _ _ _ _)))))
def spec_roIn.l0 : Nat → Int → Int → List Int → List Int → Int → Int → Option (List Int)
  | 0, _, _, _, _, _, _ => none
  | k + 1, x1, x2, x7, x10, x11, x12 => if x12 < x11 then (if 0 ≤ x12 then (if x12 < (x10.length : Int) then ((spec_roAge.f (rde x10 x12) x1).bind fun y3 => ((spec_roRound.f y3 x2).bind fun y4 => (if y4 = true then (if x7.length < 17592186044416 then (spec_roIn.l0 k x1 x2 (x7 ++ [x12]) x10 x11 (IntKind.i64.wrap (x12 + 1))) else (none)) else (spec_roIn.l0 k x1 x2 x7 x10 x11 (IntKind.i64.wrap (x12 + 1)))))) else (none)) else (none)) else (some x7)
def spec_roIn.f (k : Nat) (x0 : List Int) (x1 : Int) (x2 : Int) : Option (List Int) := spec_roIn.l0 k x1 x2 [] x0 (x0.length : Int) 0
theorem spec_roIn.br_l : ∀ k, (∀ (x1 : Int) (x2 : Int) (x7 : List Int) (x10 : List Int) (x11 : Int) (x12 : Int), LeO (spec_roIn.l0 k x1 x2 x7 x10 x11 x12) (S.spec_roIn.l0 x1 x2 x7 x10 x11 x12))
  | 0 => fun _ _ _ _ _ _ => LeO.none _
  | k + 1 => by
    have ih := spec_roIn.br_l k
    have ih_l0 := ih
    refine fun x1 x2 x7 x10 x11 x12 => ?_
    · refine LeO.of (S.spec_roIn.l0.eq _ _ _ _ _ _) ?_
      show LeO (spec_roIn.l0 (k + 1) x1 x2 x7 x10 x11 x12) _
      unfold spec_roIn.l0
      exact (LeO.dec (fun h0 => (LeO.tst fun h1 => (LeO.tst fun h2 => (LeO.rdI h1 h2 (LeO.bind (spec_roAge.f.br _ _) (fun y3 => (LeO.bind (spec_roRound.f.br _ _) (fun y4 => (LeO.ite' (fun h3 => (LeO.tst fun h4 => (LeO.cat1 h4 (ih_l0 _ _ _ _ _ _)))) (fun h3 => (ih_l0 _ _ _ _ _ _))))))))))) (fun h0 => LeO.refl _))
theorem spec_roIn.f.br (k : Nat) (x0 : List Int) (x1 : Int) (x2 : Int) : LeO (spec_roIn.f k x0 x1 x2) (S.spec_roIn.f x0 x1 x2) := by
  refine LeO.of (S.spec_roIn.f.eq _ _ _) ?_
  unfold spec_roIn.f
  have ih_l0 := (spec_roIn.br_l k)
  exact (ih_l0 _ _ _ _ _ _)
mutual
def spec_BestEvery.j0 : Nat → List Int → Int → Int → Bool → Option (Int × Int × Bool)
  | 0, _, _, _, _ => none
  | k + 1, x0, x1, x2, x21 => if x21 = true then (some (0, 0, false)) else (spec_BestEvery.l0 k x0 x1 x2 0 (-1) 2)
def spec_BestEvery.l0 : Nat → List Int → Int → Int → Int → Int → Int → Option (Int × Int × Bool)
  | 0, _, _, _, _, _, _ => none
  | k + 1, x0, x1, x2, x9, x10, x11 => if x11 ≤ x2 then ((spec_roIn.f k x0 x1 x11).bind fun y2 => (if (y2.length : Int) ≥ x10 then (spec_BestEvery.l0 k x0 x1 x2 x11 (y2.length : Int) (IntKind.i64.wrap (x11 + 1))) else (spec_BestEvery.l0 k x0 x1 x2 x9 x10 (IntKind.i64.wrap (x11 + 1))))) else (some (x9, x10, true))
end
def spec_BestEvery.f (k : Nat) (x0 : List Int) (x1 : Int) (x2 : Int) : Option (Int × Int × Bool) := (spec_roYear.f k x0 x1).bind fun y1 => (if y1 = true then ((spec_l1In.f x2 2 100).bind fun y7 => (spec_BestEvery.j0 k x0 x1 x2 (!y7))) else (spec_BestEvery.j0 k x0 x1 x2 true))
theorem spec_BestEvery.br_l : ∀ k, (∀ (x0 : List Int) (x1 : Int) (x2 : Int) (x21 : Bool), LeO (spec_BestEvery.j0 k x0 x1 x2 x21) (S.spec_BestEvery.j0 x0 x1 x2 x21)) ∧ (∀ (x0 : List Int) (x1 : Int) (x2 : Int) (x9 : Int) (x10 : Int) (x11 : Int), LeO (spec_BestEvery.l0 k x0 x1 x2 x9 x10 x11) (S.spec_BestEvery.l0 x0 x1 x2 x9 x10 x11))
  | 0 => ⟨fun _ _ _ _ => LeO.none _, fun _ _ _ _ _ _ => LeO.none _⟩
  | k + 1 => by
    have ih := spec_BestEvery.br_l k
    obtain ⟨ih_j0, ih_l0⟩ := ih
    refine ⟨fun x0 x1 x2 x21 => ?_, fun x0 x1 x2 x9 x10 x11 => ?_⟩
    · refine LeO.of (S.spec_BestEvery.j0.eq _ _ _ _) ?_
      unfold spec_BestEvery.j0
      exact (LeO.ite' (fun h0 => LeO.refl _) (fun h0 => (ih_l0 _ _ _ _ _ _)))
    · refine LeO.of (S.spec_BestEvery.l0.eq _ _ _ _ _ _) ?_
      unfold spec_BestEvery.l0
      exact (LeO.dec (fun h0 => (LeO.bind (spec_roIn.f.br k _ _ _) (fun y2 => (LeO.dec (fun h1 => (ih_l0 _ _ _ _ _ _)) (fun h1 => (ih_l0 _ _ _ _ _ _)))))) (fun h0 => LeO.refl _))
theorem spec_BestEvery.f.br (k : Nat) (x0 : List Int) (x1 : Int) (x2 : Int) : LeO (spec_BestEvery.f k x0 x1 x2) (S.spec_BestEvery.f x0 x1 x2) := by
  refine LeO.of (S.spec_BestEvery.f.eq _ _ _) ?_
  unfold spec_BestEvery.f
  have ih_j0 := (spec_BestEvery.br_l k).1
  exact (LeO.bind (spec_roYear.f.br k _ _) (fun y1 => (LeO.nob (fun h0 => (LeO.bind (spec_l1In.f.br _ _ _) (fun y7 => (ih_j0 _ _ _ _)))) (fun h0 => (ih_j0 _ _ _ _)))))
def spec_DrawDoubleYear.f (k : Nat) (x0 : List Int) : Option ((List Int) × Int × Int) := (spec_l1Cur_born.f k x0 0 0).bind fun y1 => ((spec_l1Cur_pick.f y1.2.1 y1.2.2.1 y1.2.2.2 (IntKind.i64.wrap ((y1.1.length : Int) + 1))).bind fun y4 => ((spec_l1Cur_pick.f y4.2.1 y4.2.2.1 y4.2.2.2 9).bind fun y5 => ((spec_l1Cur_pick.f y5.2.1 y5.2.2.1 y5.2.2.2 (IntKind.i64.wrap ((y1.1.length : Int) + 1))).bind fun y10 => (some (y1.1, (IntKind.i64.wrap (y4.1 - (IntKind.i64.wrap (y5.1.tdiv 8)))), y10.1)))))
theorem spec_DrawDoubleYear.f.br (k : Nat) (x0 : List Int) : LeO (spec_DrawDoubleYear.f k x0) (S.spec_DrawDoubleYear.f x0) := by
  refine LeO.of (S.spec_DrawDoubleYear.f.eq _) ?_
  unfold spec_DrawDoubleYear.f
  exact (LeO.bind (spec_l1Cur_born.f.br k _ _ _) (fun y1 => (LeO.bind (spec_l1Cur_pick.f.br _ _ _ _) (fun y4 => (LeO.bind (spec_l1Cur_pick.f.br _ _ _ _) (fun y5 => (LeO.bind (spec_l1Cur_pick.f.br _ _ _ _) (fun y10 => LeO.refl _))))))))
def impl_is.f (x0 : List Int) (x1 : Int) : Option (Bool) := (impl_between.f x1 0 (IntKind.i64.wrap ((x0.length : Int) - 1))).bind fun y3 => (some y3)
theorem impl_is.f.br (x0 : List Int) (x1 : Int) : LeO (impl_is.f x0 x1) (S.impl_is.f x0 x1) := by
  refine LeO.of (S.impl_is.f.eq _ _) ?_
  unfold impl_is.f
  exact (LeO.bind (impl_between.f.br _ _ _) (fun y3 => LeO.refl _))
def impl_DoubleYear.j0 : Nat → List Int → Int → Int → Bool → Option (Int × Bool)
  | 0, _, _, _, _ => none
  | k + 1, x0, x1, x2, x32 => if x32 = true then (some (0, false)) else (if 0 ≤ x2 then (if x2 < (x0.length : Int) then (if 0 ≤ x1 then (if x1 < (x0.length : Int) then ((impl_ageIn.f (rde x0 x1) (IntKind.i64.wrap ((IntKind.i64.wrap (2 * (rde x0 x2))) - (rde x0 x1)))).bind fun y6 => ((impl_ageIn.f (rde x0 x2) (IntKind.i64.wrap ((IntKind.i64.wrap (2 * (rde x0 x2))) - (rde x0 x1)))).bind fun y8 => ((impl_isYear.f (IntKind.i64.wrap ((IntKind.i64.wrap (2 * (rde x0 x2))) - (rde x0 x1)))).bind fun y9 => (if y9 = true then (if y6.2 = true then (if y8.2 = true then (if y8.1 = 0 then (some (0, false)) else (some ((IntKind.i64.wrap ((IntKind.i64.wrap (2 * (rde x0 x2))) - (rde x0 x1))), true))) else (some (0, false))) else (some (0, false))) else (some (0, false)))))) else (none)) else (none)) else (none)) else (none))
def impl_DoubleYear.f (k : Nat) (x0 : List Int) (x1 : Int) (x2 : Int) : Option (Int × Bool) := (impl_AreBirths.f x0).bind fun y1 => (if y1 = true then ((impl_is.f x0 x1).bind fun y14 => (if y14 = true then ((impl_is.f x0 x2).bind fun y16 => (if y16 = true then (impl_DoubleYear.j0 k x0 x1 x2 (x1 == x2)) else (impl_DoubleYear.j0 k x0 x1 x2 true))) else (impl_DoubleYear.j0 k x0 x1 x2 true))) else (impl_DoubleYear.j0 k x0 x1 x2 true))
theorem impl_DoubleYear.br_l : ∀ k, (∀ (x0 : List Int) (x1 : Int) (x2 : Int) (x32 : Bool), LeO (impl_DoubleYear.j0 k x0 x1 x2 x32) (S.impl_DoubleYear.j0 x0 x1 x2 x32))
  | 0 => fun _ _ _ _ => LeO.none _
  | k + 1 => by
    have ih := impl_DoubleYear.br_l k
    have ih_j0 := ih
    refine fun x0 x1 x2 x32 => ?_
    · refine LeO.of (S.impl_DoubleYear.j0.eq _ _ _ _) ?_
      show LeO (impl_DoubleYear.j0 (k + 1) x0 x1 x2 x32) _
      unfold impl_DoubleYear.j0
      exact (LeO.ite' (fun h0 => LeO.refl _) (fun h0 => (LeO.tst fun h1 => (LeO.tst fun h2 => (LeO.rdI h1 h2 (LeO.tst fun h3 => (LeO.tst fun h4 => (LeO.rdI h3 h4 (LeO.rdI h3 h4 (LeO.bind (impl_ageIn.f.br _ _) (fun y6 => (LeO.rdI h1 h2 (LeO.bind (impl_ageIn.f.br _ _) (fun y8 => (LeO.bind (impl_isYear.f.br _) (fun y9 => (LeO.nob (fun h5 => (LeO.nob (fun h6 => (LeO.nob (fun h7 => (LeO.beq (fun h8 => LeO.refl _) (fun h8 => LeO.refl _))) (fun h7 => LeO.refl _))) (fun h6 => LeO.refl _))) (fun h5 => LeO.refl _))))))))))))))))))
theorem impl_DoubleYear.f.br (k : Nat) (x0 : List Int) (x1 : Int) (x2 : Int) : LeO (impl_DoubleYear.f k x0 x1 x2) (S.impl_DoubleYear.f x0 x1 x2) := by
  refine LeO.of (S.impl_DoubleYear.f.eq _ _ _) ?_
  unfold impl_DoubleYear.f
  have ih_j0 := (impl_DoubleYear.br_l k)
  exact (LeO.bind (impl_AreBirths.f.br _) (fun y1 => (LeO.nob (fun h0 => (LeO.bind (impl_is.f.br _ _) (fun y14 => (LeO.nob (fun h1 => (LeO.bind (impl_is.f.br _ _) (fun y16 => (LeO.nob (fun h2 => (ih_j0 _ _ _ _)) (fun h2 => (ih_j0 _ _ _ _)))))) (fun h1 => (ih_j0 _ _ _ _)))))) (fun h0 => (ih_j0 _ _ _ _)))))
def spec_DoubleYear.j0 : Nat → List Int → Int → Int → Bool → Option (Int × Bool)
  | 0, _, _, _, _ => none
  | k + 1, x0, x1, x2, x32 => if x32 = true then (some (0, false)) else (if 0 ≤ x2 then (if x2 < (x0.length : Int) then (if 0 ≤ x1 then (if x1 < (x0.length : Int) then (if (IntKind.i64.wrap ((rde x0 x2) - (rde x0 x1))) < 1 then (some (0, false)) else (if (IntKind.i64.wrap (2 * (IntKind.i64.wrap ((rde x0 x2) - (rde x0 x1))))) > 120 then (some (0, false)) else (if (IntKind.i64.wrap ((rde x0 x2) + (IntKind.i64.wrap ((rde x0 x2) - (rde x0 x1))))) > 3000 then (some (0, false)) else (some ((IntKind.i64.wrap ((rde x0 x2) + (IntKind.i64.wrap ((rde x0 x2) - (rde x0 x1))))), true))))) else (none)) else (none)) else (none)) else (none))
def spec_DoubleYear.f (k : Nat) (x0 : List Int) (x1 : Int) (x2 : Int) : Option (Int × Bool) := (spec_roBorn.f k x0).bind fun y1 => (if y1 = true then ((spec_l1In.f x1 0 (IntKind.i64.wrap ((x0.length : Int) - 1))).bind fun y16 => (if y16 = true then ((spec_l1In.f x2 0 (IntKind.i64.wrap ((x0.length : Int) - 1))).bind fun y20 => (if y20 = true then (spec_DoubleYear.j0 k x0 x1 x2 (x1 == x2)) else (spec_DoubleYear.j0 k x0 x1 x2 true))) else (spec_DoubleYear.j0 k x0 x1 x2 true))) else (spec_DoubleYear.j0 k x0 x1 x2 true))
theorem spec_DoubleYear.br_l : ∀ k, (∀ (x0 : List Int) (x1 : Int) (x2 : Int) (x32 : Bool), LeO (spec_DoubleYear.j0 k x0 x1 x2 x32) (S.spec_DoubleYear.j0 x0 x1 x2 x32))
  | 0 => fun _ _ _ _ => LeO.none _
  | k + 1 => by
    have ih := spec_DoubleYear.br_l k
    have ih_j0 := ih
    refine fun x0 x1 x2 x32 => ?_
    · refine LeO.of (S.spec_DoubleYear.j0.eq _ _ _ _) ?_
      show LeO (spec_DoubleYear.j0 (k + 1) x0 x1 x2 x32) _
      unfold spec_DoubleYear.j0
      exact (LeO.ite' (fun h0 => LeO.refl _) (fun h0 => (LeO.tst fun h1 => (LeO.tst fun h2 => (LeO.rdI h1 h2 (LeO.tst fun h3 => (LeO.tst fun h4 => (LeO.rdI h3 h4 (LeO.dec (fun h5 => LeO.refl _) (fun h5 => (LeO.dec (fun h6 => LeO.refl _) (fun h6 => (LeO.rdI h1 h2 (LeO.dec (fun h7 => LeO.refl _) (fun h7 => (LeO.rdI h1 h2 (LeO.refl _)))))))))))))))))
theorem spec_DoubleYear.f.br (k : Nat) (x0 : List Int) (x1 : Int) (x2 : Int) : LeO (spec_DoubleYear.f k x0 x1 x2) (S.spec_DoubleYear.f x0 x1 x2) := by
  refine LeO.of (S.spec_DoubleYear.f.eq _ _ _) ?_
  unfold spec_DoubleYear.f
  have ih_j0 := (spec_DoubleYear.br_l k)
  exact (LeO.bind (spec_roBorn.f.br k _) (fun y1 => (LeO.nob (fun h0 => (LeO.bind (spec_l1In.f.br _ _ _) (fun y16 => (LeO.nob (fun h1 => (LeO.bind (spec_l1In.f.br _ _ _) (fun y20 => (LeO.nob (fun h2 => (ih_j0 _ _ _ _)) (fun h2 => (ih_j0 _ _ _ _)))))) (fun h1 => (ih_j0 _ _ _ _)))))) (fun h0 => (ih_j0 _ _ _ _)))))
def spec_DrawJoinBorn.f (k : Nat) (x0 : List Int) : Option ((List Int) × (List Int)) := (spec_l1Cur_born.f k x0 0 0).bind fun y1 => ((spec_l1Cur_born.f k y1.2.1 y1.2.2.1 y1.2.2.2).bind fun y2 => (some (y1.1, y2.1)))
theorem spec_DrawJoinBorn.f.br (k : Nat) (x0 : List Int) : LeO (spec_DrawJoinBorn.f k x0) (S.spec_DrawJoinBorn.f x0) := by
  refine LeO.of (S.spec_DrawJoinBorn.f.eq _) ?_
  unfold spec_DrawJoinBorn.f
  exact (LeO.bind (spec_l1Cur_born.f.br k _ _ _) (fun y1 => (LeO.bind (spec_l1Cur_born.f.br k _ _ _) (fun y2 => LeO.refl _))))
mutual
def slices_Concat.l0 : Nat → List (List Int) → Int → List (List Int) → Int → Int → Option (List Int)
  | 0, _, _, _, _, _ => none
  | k + 1, x0, x3, x9, x10, x11 => if x11 < x10 then (if 0 ≤ x11 then (if x11 < (x9.length : Int) then (if (IntKind.i64.wrap (x3 + ((rde x9 x11).length : Int))) < 0 then (none) else (slices_Concat.l0 k x0 (IntKind.i64.wrap (x3 + ((rde x9 x11).length : Int))) x9 x10 (IntKind.i64.wrap (x11 + 1)))) else (none)) else (none)) else ((S.slices_Grow.f [] x3).bind fun y7 => (slices_Concat.l1 k y7 x0 (x0.length : Int) 0))
def slices_Concat.l1 : Nat → List Int → List (List Int) → Int → Int → Option (List Int)
  | 0, _, _, _, _ => none
  | k + 1, x6, x25, x26, x27 => if x27 < x26 then (if 0 ≤ x27 then (if x27 < (x25.length : Int) then (if x6.length + (rde x25 x27).length < 17592186044416 then (slices_Concat.l1 k (x6 ++ (rde x25 x27)) x25 x26 (IntKind.i64.wrap (x27 + 1))) else (none)) else (none)) else (none)) else (some x6)
end
def slices_Concat.f (k : Nat) (x0 : List (List Int)) : Option (List Int) := slices_Concat.l0 k x0 0 x0 (x0.length : Int) 0
theorem slices_Concat.br_l : ∀ k, (∀ (x0 : List (List Int)) (x3 : Int) (x9 : List (List Int)) (x10 : Int) (x11 : Int), LeO (slices_Concat.l0 k x0 x3 x9 x10 x11) (S.slices_Concat.l0 x0 x3 x9 x10 x11)) ∧ (∀ (x6 : List Int) (x25 : List (List Int)) (x26 : Int) (x27 : Int), LeO (slices_Concat.l1 k x6 x25 x26 x27) (S.slices_Concat.l1 x6 x25 x26 x27))
  | 0 => ⟨fun _ _ _ _ _ => LeO.none _, fun _ _ _ _ => LeO.none _⟩
  | k + 1 => by
    have ih := slices_Concat.br_l k
    obtain ⟨ih_l0, ih_l1⟩ := ih
    refine ⟨fun x0 x3 x9 x10 x11 => ?_, fun x6 x25 x26 x27 => ?_⟩
    · refine LeO.of (S.slices_Concat.l0.eq _ _ _ _ _) ?_
      unfold slices_Concat.l0
      exact (LeO.dec (fun h0 => (LeO.tst fun h1 => (LeO.tst fun h2 => (LeO.rdI h1 h2 (LeO.dec (fun h3 => (LeO.none _)) (fun h3 => (ih_l0 _ _ _ _ _))))))) (fun h0 => (LeO.bind (LeO.refl _) (fun y7 => (ih_l1 _ _ _ _)))))
    · refine LeO.of (S.slices_Concat.l1.eq _ _ _ _) ?_
      unfold slices_Concat.l1
      exact (LeO.dec (fun h0 => (LeO.tst fun h1 => (LeO.tst fun h2 => (LeO.rdI h1 h2 (LeO.tst fun h3 => (LeO.cat h3 (ih_l1 _ _ _ _))))))) (fun h0 => LeO.refl _))
theorem slices_Concat.f.br (k : Nat) (x0 : List (List Int)) : LeO (slices_Concat.f k x0) (S.slices_Concat.f x0) := by
  refine LeO.of (S.slices_Concat.f.eq _) ?_
  unfold slices_Concat.f
  have ih_l0 := (slices_Concat.br_l k).1
  exact (ih_l0 _ _ _ _ _)
def impl_bornOr.f (x0 : List Int) : Option ((List Int) × Bool) := (impl_AreBirths.f x0).bind fun y1 => (if y1 = true then (some (x0, true)) else (some ([], false)))
theorem impl_bornOr.f.br (x0 : List Int) : LeO (impl_bornOr.f x0) (S.impl_bornOr.f x0) := by
  refine LeO.of (S.impl_bornOr.f.eq _) ?_
  unfold impl_bornOr.f
  exact (LeO.bind (impl_AreBirths.f.br _) (fun y1 => (LeO.nob (fun h0 => LeO.refl _) (fun h0 => LeO.refl _))))
def impl_JoinBorn.j0 : Nat → List Int → List Int → Bool → Option ((List Int) × Bool)
  | 0, _, _, _ => none
  | k + 1, x0, x1, x13 => if x13 = true then (some ([], false)) else ((slices_Concat.f k [x0, x1]).bind fun y1 => ((impl_bornOr.f y1).bind fun y2 => (some (y2.1, y2.2))))
def impl_JoinBorn.f (k : Nat) (x0 : List Int) (x1 : List Int) : Option ((List Int) × Bool) := (impl_AreBirths.f x0).bind fun y1 => (if y1 = true then ((impl_AreBirths.f x1).bind fun y3 => (impl_JoinBorn.j0 k x0 x1 (!y3))) else (impl_JoinBorn.j0 k x0 x1 true))
theorem impl_JoinBorn.br_l : ∀ k, (∀ (x0 : List Int) (x1 : List Int) (x13 : Bool), LeO (impl_JoinBorn.j0 k x0 x1 x13) (S.impl_JoinBorn.j0 x0 x1 x13))
  | 0 => fun _ _ _ => LeO.none _
  | k + 1 => by
    have ih := impl_JoinBorn.br_l k
    have ih_j0 := ih
    refine fun x0 x1 x13 => ?_
    · refine LeO.of (S.impl_JoinBorn.j0.eq _ _ _) ?_
      show LeO (impl_JoinBorn.j0 (k + 1) x0 x1 x13) _
      unfold impl_JoinBorn.j0
      exact (LeO.ite' (fun h0 => LeO.refl _) (fun h0 => (LeO.bind (slices_Concat.f.br k _) (fun y1 => (LeO.bind (impl_bornOr.f.br _) (fun y2 => LeO.refl _))))))
theorem impl_JoinBorn.f.br (k : Nat) (x0 : List Int) (x1 : List Int) : LeO (impl_JoinBorn.f k x0 x1) (S.impl_JoinBorn.f x0 x1) := by
  refine LeO.of (S.impl_JoinBorn.f.eq _ _) ?_
  unfold impl_JoinBorn.f
  have ih_j0 := (impl_JoinBorn.br_l k)
  exact (LeO.bind (impl_AreBirths.f.br _) (fun y1 => (LeO.nob (fun h0 => (LeO.bind (impl_AreBirths.f.br _) (fun y3 => (ih_j0 _ _ _)))) (fun h0 => (ih_j0 _ _ _)))))
def spec_l1Own.f (x0 : List Int) : Option (List Int) := if x0.length < 17592186044416 then (some x0) else (none)
theorem spec_l1Own.f.br (x0 : List Int) : LeO (spec_l1Own.f x0) (S.spec_l1Own.f x0) := by
  refine LeO.of (S.spec_l1Own.f.eq _) ?_
  unfold spec_l1Own.f
  exact (LeO.tst fun h0 => (LeO.cat0 h0 (LeO.refl _)))
def spec_JoinBorn.f (k : Nat) (x0 : List Int) (x1 : List Int) : Option ((List Int) × Bool) := (spec_roBorn.f k x0).bind fun y1 => (if y1 = true then ((spec_roBorn.f k x1).bind fun y2 => (if y2 = true then (if (IntKind.i64.wrap ((x0.length : Int) + (x1.length : Int))) > 10 then (some ([], false)) else ((spec_l1Own.f x0).bind fun y9 => (if y9.length + x1.length < 17592186044416 then (some ((y9 ++ x1), true)) else (none)))) else (some ([], false)))) else (some ([], false)))
theorem spec_JoinBorn.f.br (k : Nat) (x0 : List Int) (x1 : List Int) : LeO (spec_JoinBorn.f k x0 x1) (S.spec_JoinBorn.f x0 x1) := by
  refine LeO.of (S.spec_JoinBorn.f.eq _ _) ?_
  unfold spec_JoinBorn.f
  exact (LeO.bind (spec_roBorn.f.br k _) (fun y1 => (LeO.nob (fun h0 => (LeO.bind (spec_roBorn.f.br k _) (fun y2 => (LeO.nob (fun h1 => (LeO.dec (fun h2 => LeO.refl _) (fun h2 => (LeO.bind (spec_l1Own.f.br _) (fun y9 => (LeO.tst fun h3 => (LeO.cat h3 (LeO.refl _)))))))) (fun h1 => LeO.refl _))))) (fun h0 => LeO.refl _))))
def impl_joined.l0 : Nat → List UInt8 → List (List UInt8) → List Int → Int → Int → Option (List UInt8)
  | 0, _, _, _, _, _ => none
  | k + 1, x1, x5, x9, x10, x11 => if x11 < x10 then (if 0 ≤ x11 then (if x11 < (x9.length : Int) then ((S.strconv_Itoa.f (rde x9 x11)).bind fun y3 => (if x5.length < 8796093022208 then (impl_joined.l0 k x1 (x5 ++ [y3]) x9 x10 (IntKind.i64.wrap (x11 + 1))) else (none))) else (none)) else (none)) else ((S.strings_Join.f x5 x1).bind fun y6 => (some y6))
def impl_joined.f (k : Nat) (x0 : List Int) (x1 : List UInt8) : Option (List UInt8) := impl_joined.l0 k x1 [] x0 (x0.length : Int) 0
theorem impl_joined.br_l : ∀ k, (∀ (x1 : List UInt8) (x5 : List (List UInt8)) (x9 : List Int) (x10 : Int) (x11 : Int), LeO (impl_joined.l0 k x1 x5 x9 x10 x11) (S.impl_joined.l0 x1 x5 x9 x10 x11))
  | 0 => fun _ _ _ _ _ => LeO.none _
  | k + 1 => by
    have ih := impl_joined.br_l k
    have ih_l0 := ih
    refine fun x1 x5 x9 x10 x11 => ?_
    · refine LeO.of (S.impl_joined.l0.eq _ _ _ _ _) ?_
      show LeO (impl_joined.l0 (k + 1) x1 x5 x9 x10 x11) _
      unfold impl_joined.l0
      exact (LeO.dec (fun h0 => (LeO.tst fun h1 => (LeO.tst fun h2 => (LeO.rdI h1 h2 (LeO.bind (LeO.refl _) (fun y3 => (LeO.tst fun h3 => (LeO.cat1 h3 (ih_l0 _ _ _ _ _))))))))) (fun h0 => (LeO.bind (LeO.refl _) (fun y6 => LeO.refl _))))
theorem impl_joined.f.br (k : Nat) (x0 : List Int) (x1 : List UInt8) : LeO (impl_joined.f k x0 x1) (S.impl_joined.f x0 x1) := by
  refine LeO.of (S.impl_joined.f.eq _ _) ?_
  unfold impl_joined.f
  have ih_l0 := (impl_joined.br_l k)
  exact (ih_l0 _ _ _ _ _)
def impl_BornText.f (k : Nat) (x0 : List Int) : Option ((List UInt8) × Bool) := (impl_AreBirths.f x0).bind fun y1 => (if y1 = true then ((impl_joined.f k x0 [44]).bind fun y2 => (some (y2, true))) else (some ([], false)))
theorem impl_BornText.f.br (k : Nat) (x0 : List Int) : LeO (impl_BornText.f k x0) (S.impl_BornText.f x0) := by
  refine LeO.of (S.impl_BornText.f.eq _) ?_
  unfold impl_BornText.f
  exact (LeO.bind (impl_AreBirths.f.br _) (fun y1 => (LeO.nob (fun h0 => (LeO.bind (impl_joined.f.br k _ _) (fun y2 => LeO.refl _))) (fun h0 => LeO.refl _))))
theorem u8_dig (n : Nat) (h : n < 10) : ([(IntKind.u8.wrap (IntKind.i64.wrap (48 + (n : Int))))].map fun n => UInt8.ofNat n.toNat) = [UInt8.ofNat (48 + n)] := by
  have e1 : IntKind.i64.wrap (48 + (n : Int)) = 48 + (n : Int) := by rw [Go.IntWalk.i64_left]; unfold Go.RowKit.wrap64; omega
  have e2 : IntKind.u8.wrap (48 + (n : Int)) = ((48 + n : Nat) : Int) := by
    have : IntKind.u8.wrap (48 + (n : Int)) = (48 + (n : Int)) % 256 := rfl
    rw [this]; omega
  rw [e1, e2]
  rfl
theorem l1Num_r (d : Nat) : ∀ n : Nat, n < 10 ^ d → n ≤ 9999 → 1 ≤ d → (∀ k, d ≤ k → S.spec_l1Num.r k (n : Int) = some (Go.Lib.decDigits n)) ∧ (Go.Lib.decDigits n).length ≤ d := by
  induction d with
  | zero => intro n _ _ h; omega
  | succ d ih =>
    intro n hn hm _
    rw [Go.Lib.decDigits]
    by_cases h : n < 10
    · rw [dif_pos h]
      refine ⟨fun k hk => ?_, by simp⟩
      obtain ⟨k, rfl⟩ : ∃ m, k = m + 1 := ⟨k - 1, by omega⟩
      rw [S.spec_l1Num.r.eq, if_pos (decide_eq_true (show (n : Int) < 10 by omega)), u8_dig n h]
    · rw [dif_neg h]
      have hd : 1 ≤ d := by
        rcases Nat.eq_zero_or_pos d with h0 | h0
        · subst h0
          omega
        · exact h0
      have h10 : n / 10 < 10 ^ d := by
        rw [Nat.pow_succ] at hn
        omega
      obtain ⟨b, hl⟩ := ih (n / 10) h10 (by omega) hd
      refine ⟨fun k hk => ?_, by rw [List.length_append, List.length_singleton]; omega⟩
      obtain ⟨k, rfl⟩ : ∃ m, k = m + 1 := ⟨k - 1, by omega⟩
      have e1 : IntKind.i64.wrap (Int.tdiv (n : Int) 10) = ((n / 10 : Nat) : Int) := by
        rw [show Int.tdiv (n : Int) 10 = ((n / 10 : Nat) : Int) from rfl, Go.IntWalk.i64_left]
        unfold Go.RowKit.wrap64
        omega
      have e2 : Int.tmod (n : Int) 10 = ((n % 10 : Nat) : Int) := rfl
      have hlen : (Go.Lib.decDigits (n / 10)).length ≤ 21 := by
        have := Go.Lib.itoa_length_le ((n / 10 : Nat) : Int) (by omega) (by omega)
        unfold Go.Lib.itoa at this
        rw [if_neg (by omega), Int.toNat_natCast] at this
        exact this
      rw [S.spec_l1Num.r.eq, if_neg (by simp; omega), e1, e2, b k (by omega), Option.bind_some, u8_dig (n % 10) (by omega), catI_cat (by unfold strMax; simp; omega), Option.bind_some]
/-- The digits of a number. -/
def spec_l1Num.f (x0 : Int) : Option (List UInt8) := if 0 ≤ x0 ∧ x0 ≤ 9999 then some (Go.Lib.itoa x0) else none
theorem spec_l1Num.f.br (x0 : Int) : LeO (spec_l1Num.f x0) (S.spec_l1Num.f x0) := by
  unfold spec_l1Num.f
  split
  · rename_i h
    obtain ⟨n, rfl⟩ : ∃ n : Nat, x0 = (n : Int) := ⟨x0.toNat, by omega⟩
    have h1 := (l1Num_r 4 n (by omega) (by omega) (by omega)).1
    have e : Go.Lib.itoa (n : Int) = Go.Lib.decDigits n := by
      unfold Go.Lib.itoa
      rw [if_neg (by omega), Int.toNat_natCast]
    have h2 : S.spec_l1Num.f (n : Int) = some (Go.Lib.itoa (n : Int)) := by
      rw [e]
      exact lim_eq ⟨4, h1⟩
    rw [h2]
    exact LeO.refl _
  · exact LeO.none _
def spec_roText.l0 : Nat → List UInt8 → List Int → Int → Int → Option (List UInt8)
  | 0, _, _, _, _ => none
  | k + 1, x3, x6, x7, x8 => if x8 < x7 then (if 0 ≤ x8 then (if x8 < (x6.length : Int) then (if x8 > 0 then (if x3.length + 1 ≤ 9223372036854775807 then ((spec_l1Num.f (rde x6 x8)).bind fun y5 => (if (x3 ++ [44]).length + y5.length ≤ 9223372036854775807 then (spec_roText.l0 k ((x3 ++ [44]) ++ y5) x6 x7 (IntKind.i64.wrap (x8 + 1))) else (none))) else (none)) else ((spec_l1Num.f (rde x6 x8)).bind fun y8 => (if x3.length + y8.length ≤ 9223372036854775807 then (spec_roText.l0 k (x3 ++ y8) x6 x7 (IntKind.i64.wrap (x8 + 1))) else (none)))) else (none)) else (none)) else (some x3)
def spec_roText.f (k : Nat) (x0 : List Int) : Option (List UInt8) := spec_roText.l0 k [] x0 (x0.length : Int) 0
theorem spec_roText.br_l : ∀ k, (∀ (x3 : List UInt8) (x6 : List Int) (x7 : Int) (x8 : Int), LeO (spec_roText.l0 k x3 x6 x7 x8) (S.spec_roText.l0 x3 x6 x7 x8))
  | 0 => fun _ _ _ _ => LeO.none _
  | k + 1 => by
    have ih := spec_roText.br_l k
    have ih_l0 := ih
    refine fun x3 x6 x7 x8 => ?_
    · refine LeO.of (S.spec_roText.l0.eq _ _ _ _) ?_
      show LeO (spec_roText.l0 (k + 1) x3 x6 x7 x8) _
      unfold spec_roText.l0
      exact (LeO.dec (fun h0 => (LeO.tst fun h1 => (LeO.tst fun h2 => (LeO.rdI h1 h2 (LeO.dec (fun h3 => (LeO.tst fun h4 => (LeO.catS h4 (LeO.bind (spec_l1Num.f.br _) (fun y5 => (LeO.tst fun h5 => (LeO.catS h5 (ih_l0 _ _ _ _)))))))) (fun h3 => (LeO.bind (spec_l1Num.f.br _) (fun y8 => (LeO.tst fun h4 => (LeO.catS h4 (ih_l0 _ _ _ _))))))))))) (fun h0 => LeO.refl _))
theorem spec_roText.f.br (k : Nat) (x0 : List Int) : LeO (spec_roText.f k x0) (S.spec_roText.f x0) := by
  refine LeO.of (S.spec_roText.f.eq _) ?_
  unfold spec_roText.f
  have ih_l0 := (spec_roText.br_l k)
  exact (ih_l0 _ _ _ _)
def spec_BornText.f (k : Nat) (x0 : List Int) : Option ((List UInt8) × Bool) := (spec_roBorn.f k x0).bind fun y1 => (if y1 = true then ((spec_roText.f k x0).bind fun y2 => (some (y2, true))) else (some ([], false)))
theorem spec_BornText.f.br (k : Nat) (x0 : List Int) : LeO (spec_BornText.f k x0) (S.spec_BornText.f x0) := by
  refine LeO.of (S.spec_BornText.f.eq _) ?_
  unfold spec_BornText.f
  exact (LeO.bind (spec_roBorn.f.br k _) (fun y1 => (LeO.nob (fun h0 => (LeO.bind (spec_roText.f.br k _) (fun y2 => LeO.refl _))) (fun h0 => LeO.refl _))))
mutual
def spec_l1Cur_spoilt.l0 : Nat → List UInt8 → List UInt8 → Int → List Int → Int → Int → Option ((List UInt8) × (List Int) × Int × Int)
  | 0, _, _, _, _, _, _ => none
  | k + 1, x1, x2, x7, x0_0, x0_1, x0_2 => if x7 > 0 then (spec_l1Cur_spoilt.j0 k x1 x2 x7 (decide ((x1.length : Int) > 0)) x0_0 x0_1 x0_2) else (spec_l1Cur_spoilt.j0 k x1 x2 x7 false x0_0 x0_1 x0_2)
def spec_l1Cur_spoilt.j0 : Nat → List UInt8 → List UInt8 → Int → Bool → List Int → Int → Int → Option ((List UInt8) × (List Int) × Int × Int)
  | 0, _, _, _, _, _, _, _ => none
  | k + 1, x1, x2, x7, x19, x0_0, x0_1, x0_2 => if x19 = true then ((spec_l1Cur_pick.f x0_0 x0_1 x0_2 (x1.length : Int)).bind fun y2 => ((spec_l1Cur_pick.f y2.2.1 y2.2.2.1 y2.2.2.2 (x2.length : Int)).bind fun y4 => (if 0 ≤ y4.1 then (if y4.1 < (x2.length : Int) then ((spec_l1Cur_pick.f y4.2.1 y4.2.2.1 y4.2.2.2 3).bind fun y7 => (if y7.1 = 0 then (if 0 ≤ y2.1 then (if y2.1 ≤ (x1.length : Int) then (if (x1.take y2.1.toNat).length + ([((rde x2 y4.1).toNat : Int)].map fun n => UInt8.ofNat n.toNat).length ≤ 9223372036854775807 then (if ((x1.take y2.1.toNat) ++ ([((rde x2 y4.1).toNat : Int)].map fun n => UInt8.ofNat n.toNat)).length + (x1.drop y2.1.toNat).length ≤ 9223372036854775807 then (spec_l1Cur_spoilt.l0 k (((x1.take y2.1.toNat) ++ ([((rde x2 y4.1).toNat : Int)].map fun n => UInt8.ofNat n.toNat)) ++ (x1.drop y2.1.toNat)) x2 (IntKind.i64.wrap (x7 - 1)) y7.2.1 y7.2.2.1 y7.2.2.2) else (none)) else (none)) else (none)) else (none)) else (if y7.1 = 1 then (if 0 ≤ y2.1 then (if y2.1 ≤ (x1.length : Int) then (if (x1.take y2.1.toNat).length + ([((rde x2 y4.1).toNat : Int)].map fun n => UInt8.ofNat n.toNat).length ≤ 9223372036854775807 then (if 0 ≤ (IntKind.i64.wrap (y2.1 + 1)) then (if (IntKind.i64.wrap (y2.1 + 1)) ≤ (x1.length : Int) then (if ((x1.take y2.1.toNat) ++ ([((rde x2 y4.1).toNat : Int)].map fun n => UInt8.ofNat n.toNat)).length + (x1.drop (IntKind.i64.wrap (y2.1 + 1)).toNat).length ≤ 9223372036854775807 then (spec_l1Cur_spoilt.l0 k (((x1.take y2.1.toNat) ++ ([((rde x2 y4.1).toNat : Int)].map fun n => UInt8.ofNat n.toNat)) ++ (x1.drop (IntKind.i64.wrap (y2.1 + 1)).toNat)) x2 (IntKind.i64.wrap (x7 - 1)) y7.2.1 y7.2.2.1 y7.2.2.2) else (none)) else (none)) else (none)) else (none)) else (none)) else (none)) else (if 0 ≤ y2.1 then (if y2.1 ≤ (x1.length : Int) then (if 0 ≤ (IntKind.i64.wrap (y2.1 + 1)) then (if (IntKind.i64.wrap (y2.1 + 1)) ≤ (x1.length : Int) then (if (x1.take y2.1.toNat).length + (x1.drop (IntKind.i64.wrap (y2.1 + 1)).toNat).length ≤ 9223372036854775807 then (spec_l1Cur_spoilt.l0 k ((x1.take y2.1.toNat) ++ (x1.drop (IntKind.i64.wrap (y2.1 + 1)).toNat)) x2 (IntKind.i64.wrap (x7 - 1)) y7.2.1 y7.2.2.1 y7.2.2.2) else (none)) else (none)) else (none)) else (none)) else (none))))) else (none)) else (none)))) else (some (x1, x0_0, x0_1, x0_2))
end
def spec_l1Cur_spoilt.f (k : Nat) (x0_0 : List Int) (x0_1 : Int) (x0_2 : Int) (x1 : List UInt8) (x2 : List UInt8) : Option ((List UInt8) × (List Int) × Int × Int) := (spec_l1Cur_pick.f x0_0 x0_1 x0_2 2).bind fun y1 => (spec_l1Cur_spoilt.l0 k x1 x2 (IntKind.i64.wrap (1 + y1.1)) y1.2.1 y1.2.2.1 y1.2.2.2)
theorem spec_l1Cur_spoilt.br_l : ∀ k, (∀ (x1 : List UInt8) (x2 : List UInt8) (x7 : Int) (x0_0 : List Int) (x0_1 : Int) (x0_2 : Int), LeO (spec_l1Cur_spoilt.l0 k x1 x2 x7 x0_0 x0_1 x0_2) (S.spec_l1Cur_spoilt.l0 x1 x2 x7 x0_0 x0_1 x0_2)) ∧ (∀ (x1 : List UInt8) (x2 : List UInt8) (x7 : Int) (x19 : Bool) (x0_0 : List Int) (x0_1 : Int) (x0_2 : Int), LeO (spec_l1Cur_spoilt.j0 k x1 x2 x7 x19 x0_0 x0_1 x0_2) (S.spec_l1Cur_spoilt.j0 x1 x2 x7 x19 x0_0 x0_1 x0_2))
  | 0 => ⟨fun _ _ _ _ _ _ => LeO.none _, fun _ _ _ _ _ _ _ => LeO.none _⟩
  | k + 1 => by
    have ih := spec_l1Cur_spoilt.br_l k
    obtain ⟨ih_l0, ih_j0⟩ := ih
    refine ⟨fun x1 x2 x7 x0_0 x0_1 x0_2 => ?_, fun x1 x2 x7 x19 x0_0 x0_1 x0_2 => ?_⟩
    · refine LeO.of (S.spec_l1Cur_spoilt.l0.eq _ _ _ _ _ _) ?_
      unfold spec_l1Cur_spoilt.l0
      exact (LeO.dec (fun h0 => (ih_j0 _ _ _ _ _ _ _)) (fun h0 => (ih_j0 _ _ _ _ _ _ _)))
    · refine LeO.of (S.spec_l1Cur_spoilt.j0.eq _ _ _ _ _ _ _) ?_
      unfold spec_l1Cur_spoilt.j0
      exact (LeO.ite' (fun h0 => (LeO.bind (spec_l1Cur_pick.f.br _ _ _ _) (fun y2 => (LeO.bind (spec_l1Cur_pick.f.br _ _ _ _) (fun y4 => (LeO.tst fun h1 => (LeO.tst fun h2 => (LeO.rdI h1 h2 (LeO.bind (spec_l1Cur_pick.f.br _ _ _ _) (fun y7 => (LeO.beq (fun h3 => (LeO.tst fun h5 => (LeO.tst fun h6 => (LeO.sub0 h5 h6 (LeO.tst fun h7 => (LeO.catS h7 (LeO.subE h5 h6 (LeO.tst fun h8 => (LeO.catS h8 (ih_l0 _ _ _ _ _ _)))))))))) (fun h3 => (LeO.beq (fun h4 => (LeO.tst fun h6 => (LeO.tst fun h7 => (LeO.sub0 h6 h7 (LeO.tst fun h8 => (LeO.catS h8 (LeO.tst fun h9 => (LeO.tst fun h10 => (LeO.subE h9 h10 (LeO.tst fun h11 => (LeO.catS h11 (ih_l0 _ _ _ _ _ _)))))))))))) (fun h4 => (LeO.tst fun h6 => (LeO.tst fun h7 => (LeO.sub0 h6 h7 (LeO.tst fun h8 => (LeO.tst fun h9 => (LeO.subE h8 h9 (LeO.tst fun h10 => (LeO.catS h10 (ih_l0 _ _ _ _ _ _))))))))))))))))))))))) (fun h0 => LeO.refl _))
theorem spec_l1Cur_spoilt.f.br (k : Nat) (x0_0 : List Int) (x0_1 : Int) (x0_2 : Int) (x1 : List UInt8) (x2 : List UInt8) : LeO (spec_l1Cur_spoilt.f k x0_0 x0_1 x0_2 x1 x2) (S.spec_l1Cur_spoilt.f x0_0 x0_1 x0_2 x1 x2) := by
  refine LeO.of (S.spec_l1Cur_spoilt.f.eq _ _ _ _ _) ?_
  unfold spec_l1Cur_spoilt.f
  have ih_l0 := (spec_l1Cur_spoilt.br_l k).1
  exact (LeO.bind (spec_l1Cur_pick.f.br _ _ _ _) (fun y1 => (ih_l0 _ _ _ _ _ _)))
def spec_DrawParseBorn.f (k : Nat) (x0 : List Int) : Option (List UInt8) := (spec_l1Cur_sureBorn.f k x0 0 0 4).bind fun y1 => ((spec_roText.f k y1.1).bind fun y2 => ((spec_l1Cur_one.f y1.2.1 y1.2.2.1 y1.2.2.2 3).bind fun y3 => (if y3.1 = true then ((spec_l1Cur_spoilt.f k y3.2.1 y3.2.2.1 y3.2.2.2 y2 [48, 49, 50, 57, 44, 120]).bind fun y4 => (some y4.1)) else (some y2))))
theorem spec_DrawParseBorn.f.br (k : Nat) (x0 : List Int) : LeO (spec_DrawParseBorn.f k x0) (S.spec_DrawParseBorn.f x0) := by
  refine LeO.of (S.spec_DrawParseBorn.f.eq _) ?_
  unfold spec_DrawParseBorn.f
  exact (LeO.bind (spec_l1Cur_sureBorn.f.br k _ _ _ _) (fun y1 => (LeO.bind (spec_roText.f.br k _) (fun y2 => (LeO.bind (spec_l1Cur_one.f.br _ _ _ _) (fun y3 => (LeO.ite' (fun h0 => (LeO.bind (spec_l1Cur_spoilt.f.br k _ _ _ _ _) (fun y4 => LeO.refl _))) (fun h0 => LeO.refl _))))))))
def impl_readNumbers.l0 : Nat → List Int → List (List UInt8) → Int → Int → Option ((List Int) × Bool)
  | 0, _, _, _, _ => none
  | k + 1, x6, x14, x15, x16 => if x16 < x15 then (if 0 ≤ x16 then (if x16 < (x14.length : Int) then ((S.impl_readNumber.f (rde x14 x16)).bind fun y3 => (if y3.2 = true then (if x6.length < 17592186044416 then (impl_readNumbers.l0 k (x6 ++ [y3.1]) x14 x15 (IntKind.i64.wrap (x16 + 1))) else (none)) else (some ([], false)))) else (none)) else (none)) else (some (x6, true))
def impl_readNumbers.f (k : Nat) (x0 : List UInt8) (x1 : List UInt8) : Option ((List Int) × Bool) := (S.strings_Split.f x0 x1).bind fun y1 => (impl_readNumbers.l0 k [] y1 (y1.length : Int) 0)
theorem impl_readNumbers.br_l : ∀ k, (∀ (x6 : List Int) (x14 : List (List UInt8)) (x15 : Int) (x16 : Int), LeO (impl_readNumbers.l0 k x6 x14 x15 x16) (S.impl_readNumbers.l0 x6 x14 x15 x16))
  | 0 => fun _ _ _ _ => LeO.none _
  | k + 1 => by
    have ih := impl_readNumbers.br_l k
    have ih_l0 := ih
    refine fun x6 x14 x15 x16 => ?_
    · refine LeO.of (S.impl_readNumbers.l0.eq _ _ _ _) ?_
      show LeO (impl_readNumbers.l0 (k + 1) x6 x14 x15 x16) _
      unfold impl_readNumbers.l0
      exact (LeO.dec (fun h0 => (LeO.tst fun h1 => (LeO.tst fun h2 => (LeO.rdI h1 h2 (LeO.bind (LeO.refl _) (fun y3 => (LeO.nob (fun h3 => (LeO.tst fun h4 => (LeO.cat1 h4 (ih_l0 _ _ _ _)))) (fun h3 => LeO.refl _)))))))) (fun h0 => LeO.refl _))
theorem impl_readNumbers.f.br (k : Nat) (x0 : List UInt8) (x1 : List UInt8) : LeO (impl_readNumbers.f k x0 x1) (S.impl_readNumbers.f x0 x1) := by
  refine LeO.of (S.impl_readNumbers.f.eq _ _) ?_
  unfold impl_readNumbers.f
  have ih_l0 := (impl_readNumbers.br_l k)
  exact (LeO.bind (LeO.refl _) (fun y1 => (ih_l0 _ _ _ _)))
def impl_ParseBorn.f (k : Nat) (x0 : List UInt8) : Option ((List Int) × Bool) := (impl_readNumbers.f k x0 [44]).bind fun y1 => (if y1.2 = true then ((impl_bornOr.f y1.1).bind fun y2 => (some (y2.1, y2.2))) else (some ([], false)))
theorem impl_ParseBorn.f.br (k : Nat) (x0 : List UInt8) : LeO (impl_ParseBorn.f k x0) (S.impl_ParseBorn.f x0) := by
  refine LeO.of (S.impl_ParseBorn.f.eq _) ?_
  unfold impl_ParseBorn.f
  exact (LeO.bind (impl_readNumbers.f.br k _ _) (fun y1 => (LeO.nob (fun h0 => (LeO.bind (impl_bornOr.f.br _) (fun y2 => LeO.refl _))) (fun h0 => LeO.refl _))))
def spec_l1Split.l0 : Nat → List UInt8 → Int → List (List UInt8) → Int → Int → Option (List (List UInt8))
  | 0, _, _, _, _, _ => none
  | k + 1, x0, x1, x5, x6, x7 => if x7 < (x0.length : Int) then (if 0 ≤ x7 then (if ((rde x0 x7).toNat : Int) = x1 then (if 0 ≤ x6 then (if x6 ≤ x7 then (if x7 ≤ (x0.length : Int) then (if x5.length < 8796093022208 then (spec_l1Split.l0 k x0 x1 (x5 ++ [((x0.take x7.toNat).drop x6.toNat)]) (IntKind.i64.wrap (x7 + 1)) (IntKind.i64.wrap (x7 + 1))) else (none)) else (none)) else (none)) else (none)) else (spec_l1Split.l0 k x0 x1 x5 x6 (IntKind.i64.wrap (x7 + 1)))) else (none)) else (if 0 ≤ x6 then (if x6 ≤ (x0.length : Int) then (if x5.length < 8796093022208 then (some (x5 ++ [(x0.drop x6.toNat)])) else (none)) else (none)) else (none))
def spec_l1Split.f (k : Nat) (x0 : List UInt8) (x1 : Int) : Option (List (List UInt8)) := spec_l1Split.l0 k x0 x1 [] 0 0
theorem spec_l1Split.br_l : ∀ k, (∀ (x0 : List UInt8) (x1 : Int) (x5 : List (List UInt8)) (x6 : Int) (x7 : Int), LeO (spec_l1Split.l0 k x0 x1 x5 x6 x7) (S.spec_l1Split.l0 x0 x1 x5 x6 x7))
  | 0 => fun _ _ _ _ _ => LeO.none _
  | k + 1 => by
    have ih := spec_l1Split.br_l k
    have ih_l0 := ih
    refine fun x0 x1 x5 x6 x7 => ?_
    · refine LeO.of (S.spec_l1Split.l0.eq _ _ _ _ _) ?_
      show LeO (spec_l1Split.l0 (k + 1) x0 x1 x5 x6 x7) _
      unfold spec_l1Split.l0
      exact (LeO.dec (fun h0 => (LeO.tst fun h1 => (LeO.rdI h1 h0 (LeO.beq (fun h2 => (LeO.tst fun h3 => (LeO.tst fun h4 => (LeO.tst fun h5 => (LeO.subI h3 h4 h5 (LeO.tst fun h6 => (LeO.cat1 h6 (ih_l0 _ _ _ _ _)))))))) (fun h2 => (ih_l0 _ _ _ _ _)))))) (fun h0 => (LeO.tst fun h1 => (LeO.tst fun h2 => (LeO.subE h1 h2 (LeO.tst fun h3 => (LeO.cat1 h3 (LeO.refl _))))))))
theorem spec_l1Split.f.br (k : Nat) (x0 : List UInt8) (x1 : Int) : LeO (spec_l1Split.f k x0 x1) (S.spec_l1Split.f x0 x1) := by
  refine LeO.of (S.spec_l1Split.f.eq _ _) ?_
  unfold spec_l1Split.f
  have ih_l0 := (spec_l1Split.br_l k)
  exact (ih_l0 _ _ _ _ _)
mutual
def spec_l1Read.j0 : Nat → List UInt8 → Bool → Option (Int)
  | 0, _, _ => none
  | k + 1, x0, x18 => if x18 = true then (some (-1)) else (spec_l1Read.l0 k x0 0 0)
def spec_l1Read.l0 : Nat → List UInt8 → Int → Int → Option (Int)
  | 0, _, _, _ => none
  | k + 1, x0, x3, x4 => if x4 < (x0.length : Int) then (if 0 ≤ x4 then (if ((rde x0 x4).toNat : Int) < 48 then (some (-1)) else (if ((rde x0 x4).toNat : Int) > 57 then (some (-1)) else (spec_l1Read.l0 k x0 (IntKind.i64.wrap ((IntKind.i64.wrap (10 * x3)) + (IntKind.i64.wrap (IntKind.u8.wrap (((rde x0 x4).toNat : Int) - 48))))) (IntKind.i64.wrap (x4 + 1))))) else (none)) else (some x3)
end
def spec_l1Read.f (k : Nat) (x0 : List UInt8) : Option (Int) := (spec_l1In.f (x0.length : Int) 1 6).bind fun y2 => (if y2 = true then (if 0 < (x0.length : Int) then (if ((rde x0 0).toNat : Int) = 48 then (spec_l1Read.j0 k x0 (decide ((x0.length : Int) > 1))) else (spec_l1Read.j0 k x0 false)) else (none)) else (spec_l1Read.j0 k x0 true))
theorem spec_l1Read.br_l : ∀ k, (∀ (x0 : List UInt8) (x18 : Bool), LeO (spec_l1Read.j0 k x0 x18) (S.spec_l1Read.j0 x0 x18)) ∧ (∀ (x0 : List UInt8) (x3 : Int) (x4 : Int), LeO (spec_l1Read.l0 k x0 x3 x4) (S.spec_l1Read.l0 x0 x3 x4))
  | 0 => ⟨fun _ _ => LeO.none _, fun _ _ _ => LeO.none _⟩
  | k + 1 => by
    have ih := spec_l1Read.br_l k
    obtain ⟨ih_j0, ih_l0⟩ := ih
    refine ⟨fun x0 x18 => ?_, fun x0 x3 x4 => ?_⟩
    · refine LeO.of (S.spec_l1Read.j0.eq _ _) ?_
      unfold spec_l1Read.j0
      exact (LeO.ite' (fun h0 => LeO.refl _) (fun h0 => (ih_l0 _ _ _)))
    · refine LeO.of (S.spec_l1Read.l0.eq _ _ _) ?_
      unfold spec_l1Read.l0
      exact (LeO.dec (fun h0 => (LeO.tst fun h1 => (LeO.rdI h1 h0 (LeO.dec (fun h2 => LeO.refl _) (fun h2 => (LeO.rdI h1 h0 (LeO.dec (fun h3 => LeO.refl _) (fun h3 => (LeO.rdI h1 h0 (ih_l0 _ _ _)))))))))) (fun h0 => LeO.refl _))
theorem spec_l1Read.f.br (k : Nat) (x0 : List UInt8) : LeO (spec_l1Read.f k x0) (S.spec_l1Read.f x0) := by
  refine LeO.of (S.spec_l1Read.f.eq _) ?_
  unfold spec_l1Read.f
  have ih_j0 := (spec_l1Read.br_l k).1
  exact (LeO.bind (spec_l1In.f.br _ _ _) (fun y2 => (LeO.nob (fun h0 => (LeO.tst fun h2 => (LeO.rdI (by decide) h2 (LeO.beq (fun h3 => (ih_j0 _ _)) (fun h3 => (ih_j0 _ _)))))) (fun h0 => (ih_j0 _ _)))))
def spec_ParseBorn.l0 : Nat → List UInt8 → List Int → List (List UInt8) → Int → Int → Option ((List Int) × Bool)
  | 0, _, _, _, _, _ => none
  | k + 1, x0, x4, x11, x12, x13 => if x13 < x12 then (if 0 ≤ x13 then (if x13 < (x11.length : Int) then ((spec_l1Read.f k (rde x11 x13)).bind fun y3 => (if x4.length < 17592186044416 then (spec_ParseBorn.l0 k x0 (x4 ++ [y3]) x11 x12 (IntKind.i64.wrap (x13 + 1))) else (none))) else (none)) else (none)) else ((spec_roBorn.f k x4).bind fun y6 => (if y6 = true then ((spec_roText.f k x4).bind fun y7 => (if (y7 != x0) = true then (some ([], false)) else (some (x4, true)))) else (some ([], false))))
def spec_ParseBorn.f (k : Nat) (x0 : List UInt8) : Option ((List Int) × Bool) := if (x0.length : Int) > 50 then (some ([], false)) else ((spec_l1Split.f k x0 44).bind fun y3 => (spec_ParseBorn.l0 k x0 [] y3 (y3.length : Int) 0))
theorem spec_ParseBorn.br_l : ∀ k, (∀ (x0 : List UInt8) (x4 : List Int) (x11 : List (List UInt8)) (x12 : Int) (x13 : Int), LeO (spec_ParseBorn.l0 k x0 x4 x11 x12 x13) (S.spec_ParseBorn.l0 x0 x4 x11 x12 x13))
  | 0 => fun _ _ _ _ _ => LeO.none _
  | k + 1 => by
    have ih := spec_ParseBorn.br_l k
    have ih_l0 := ih
    refine fun x0 x4 x11 x12 x13 => ?_
    · refine LeO.of (S.spec_ParseBorn.l0.eq _ _ _ _ _) ?_
      show LeO (spec_ParseBorn.l0 (k + 1) x0 x4 x11 x12 x13) _
      unfold spec_ParseBorn.l0
      exact (LeO.dec (fun h0 => (LeO.tst fun h1 => (LeO.tst fun h2 => (LeO.rdI h1 h2 (LeO.bind (spec_l1Read.f.br k _) (fun y3 => (LeO.tst fun h3 => (LeO.cat1 h3 (ih_l0 _ _ _ _ _))))))))) (fun h0 => (LeO.bind (spec_roBorn.f.br k _) (fun y6 => (LeO.nob (fun h1 => (LeO.bind (spec_roText.f.br k _) (fun y7 => (LeO.ite' (fun h2 => LeO.refl _) (fun h2 => LeO.refl _))))) (fun h1 => LeO.refl _))))))
theorem spec_ParseBorn.f.br (k : Nat) (x0 : List UInt8) : LeO (spec_ParseBorn.f k x0) (S.spec_ParseBorn.f x0) := by
  refine LeO.of (S.spec_ParseBorn.f.eq _) ?_
  unfold spec_ParseBorn.f
  have ih_l0 := (spec_ParseBorn.br_l k)
  exact (LeO.dec (fun h0 => LeO.refl _) (fun h0 => (LeO.bind (spec_l1Split.f.br k _ _) (fun y3 => (ih_l0 _ _ _ _ _)))))
def impl_JubileesIn.f (k : Nat) (x0 : List Int) (x1 : Int) (x2 : Int) : Option ((List Int) × Bool) := (impl_AreBirths.f x0).bind fun y1 => (if y1 = true then ((impl_isYear.f x1).bind fun y2 => (if y2 = true then ((impl_isEvery.f x2).bind fun y4 => (if y4 = true then ((impl_jubilees.f k x0 x1 x2).bind fun y6 => (some (y6, true))) else (some ([], false)))) else (some ([], false)))) else (some ([], false)))
theorem impl_JubileesIn.f.br (k : Nat) (x0 : List Int) (x1 : Int) (x2 : Int) : LeO (impl_JubileesIn.f k x0 x1 x2) (S.impl_JubileesIn.f x0 x1 x2) := by
  refine LeO.of (S.impl_JubileesIn.f.eq _ _ _) ?_
  unfold impl_JubileesIn.f
  exact (LeO.bind (impl_AreBirths.f.br _) (fun y1 => (LeO.nob (fun h0 => (LeO.bind (impl_isYear.f.br _) (fun y2 => (LeO.nob (fun h1 => (LeO.bind (impl_isEvery.f.br _) (fun y4 => (LeO.nob (fun h2 => (LeO.bind (impl_jubilees.f.br k _ _ _) (fun y6 => LeO.refl _))) (fun h2 => LeO.refl _))))) (fun h1 => LeO.refl _))))) (fun h0 => LeO.refl _))))
mutual
def laws_FnJubileesSummed.j0 : Nat → List Int → List Int → Int → Int → Int → List Int → Bool → Bool → Option (Bool)
  | 0, _, _, _, _, _, _, _, _ => none
  | k + 1, x1, x5, x6, x7, x8, x9, x10, x120 => if x120 = true then (some false) else (if x10 = true then ((laws_qRises.f k x9).bind fun y1 => (if y1 = true then (laws_FnJubileesSummed.l0 k x1 x5 x7 x8 x9 x6) else (some false))) else (laws_FnJubileesSummed.j2 k x1))
def laws_FnJubileesSummed.l0 : Nat → List Int → List Int → Int → Int → List Int → Int → Option (Bool)
  | 0, _, _, _, _, _, _ => none
  | k + 1, x1, x5, x7, x8, x9, x13 => if x13 ≤ x7 then ((impl_SumOfAges.f k x5 x13).bind fun y2 => (laws_FnJubileesSummed.j1 k x1 x5 x7 x8 x9 x13 y2.1 y2.2)) else (laws_FnJubileesSummed.j2 k x1)
def laws_FnJubileesSummed.j1 : Nat → List Int → List Int → Int → Int → List Int → Int → Int → Bool → Option (Bool)
  | 0, _, _, _, _, _, _, _, _ => none
  | k + 1, x1, x5, x7, x8, x9, x13, x14, x15 => if x15 = true then ((laws_qHas.f k x9 x13).bind fun y1 => (if x14 > 0 then (if x8 = 0 then (none) else (if (y1 != ((x14.tmod x8) == 0)) = true then (some false) else (laws_FnJubileesSummed.l0 k x1 x5 x7 x8 x9 (IntKind.i64.wrap (x13 + 1))))) else (if (y1 != false) = true then (some false) else (laws_FnJubileesSummed.l0 k x1 x5 x7 x8 x9 (IntKind.i64.wrap (x13 + 1)))))) else (some false)
def laws_FnJubileesSummed.j2 : Nat → List Int → Option (Bool)
  | 0, _ => none
  | k + 1, x1 => (spec_DrawSumOfAges.f k x1).bind fun y1 => ((impl_SumOfAges.f k y1.1 y1.2).bind fun y2 => ((spec_SumOfAges.f k y1.1 y1.2).bind fun y3 => ((impl_SharedEvery.f k y1.1 y1.2).bind fun y4 => ((spec_SharedEvery.f k y1.1 y1.2).bind fun y5 => (laws_FnJubileesSummed.j3 k x1 y1.1 y1.2 y2.1 y2.2 y3.1 y3.2 y4.1 y4.2 y5.1 y5.2)))))
def laws_FnJubileesSummed.j3 : Nat → List Int → List Int → Int → Int → Bool → Int → Bool → Int → Bool → Int → Bool → Option (Bool)
  | 0, _, _, _, _, _, _, _, _, _, _, _ => none
  | k + 1, x1, x16, x17, x18, x19, x20, x21, x22, x23, x24, x25 => (spec_DrawYearOfSum.f k x1).bind fun y1 => ((impl_YearOfSum.f k y1.1 y1.2).bind fun y2 => ((spec_YearOfSum.f k y1.1 y1.2).bind fun y3 => ((spec_DrawBestEvery.f k x1).bind fun y4 => ((impl_BestEvery.f k y4.1 y4.2.1 y4.2.2).bind fun y5 => ((spec_BestEvery.f k y4.1 y4.2.1 y4.2.2).bind fun y6 => ((spec_DrawDoubleYear.f k x1).bind fun y7 => ((impl_DoubleYear.f k y7.1 y7.2.1 y7.2.2).bind fun y8 => ((spec_DoubleYear.f k y7.1 y7.2.1 y7.2.2).bind fun y9 => ((spec_DrawJoinBorn.f k x1).bind fun y10 => (laws_FnJubileesSummed.j4 k x1 x16 x17 x18 x19 x20 x21 x22 x23 x24 x25 y1.1 y1.2 y2.1 y2.2 y3.1 y3.2 y4.1 y4.2.1 y4.2.2 y5.1 y5.2.1 y5.2.2 y6.1 y6.2.1 y6.2.2 y7.1 y7.2.1 y7.2.2 y8.1 y8.2 y9.1 y9.2 y10.1 y10.2))))))))))
def laws_FnJubileesSummed.j4 : Nat → List Int → List Int → Int → Int → Bool → Int → Bool → Int → Bool → Int → Bool → List Int → Int → Int → Bool → Int → Bool → List Int → Int → Int → Int → Int → Bool → Int → Int → Bool → List Int → Int → Int → Int → Bool → Int → Bool → List Int → List Int → Option (Bool)
  | 0, _, _, _, _, _, _, _, _, _, _, _, _, _, _, _, _, _, _, _, _, _, _, _, _, _, _, _, _, _, _, _, _, _, _, _ => none
  | k + 1, x1, x16, x17, x18, x19, x20, x21, x22, x23, x24, x25, x26, x27, x28, x29, x30, x31, x32, x33, x34, x35, x36, x37, x38, x39, x40, x41, x42, x43, x44, x45, x46, x47, x48, x49 => (impl_JoinBorn.f k x48 x49).bind fun y1 => ((spec_JoinBorn.f k x48 x49).bind fun y2 => ((impl_BornText.f k x16).bind fun y3 => ((spec_BornText.f k x16).bind fun y4 => ((spec_DrawParseBorn.f k x1).bind fun y5 => ((impl_ParseBorn.f k y5).bind fun y6 => ((spec_ParseBorn.f k y5).bind fun y7 => (laws_FnJubileesSummed.j5 k x16 x17 x18 x19 x20 x21 x22 x23 x24 x25 x26 x27 x28 x29 x30 x31 x32 x33 x34 x35 x36 x37 x38 x39 x40 x41 x42 x43 x44 x45 x46 x47 x48 x49 y1.1 y1.2 y2.1 y2.2 y3.1 y3.2 y4.1 y4.2 y5 y6.1 y6.2 y7.1 y7.2)))))))
def laws_FnJubileesSummed.j5 : Nat → List Int → Int → Int → Bool → Int → Bool → Int → Bool → Int → Bool → List Int → Int → Int → Bool → Int → Bool → List Int → Int → Int → Int → Int → Bool → Int → Int → Bool → List Int → Int → Int → Int → Bool → Int → Bool → List Int → List Int → List Int → Bool → List Int → Bool → List UInt8 → Bool → List UInt8 → Bool → List UInt8 → List Int → Bool → List Int → Bool → Option (Bool)
  | 0, _, _, _, _, _, _, _, _, _, _, _, _, _, _, _, _, _, _, _, _, _, _, _, _, _, _, _, _, _, _, _, _, _, _, _, _, _, _, _, _, _, _, _, _, _, _, _ => none
  | k + 1, x16, x17, x18, x19, x20, x21, x22, x23, x24, x25, x26, x27, x28, x29, x30, x31, x32, x33, x34, x35, x36, x37, x38, x39, x40, x41, x42, x43, x44, x45, x46, x47, x48, x49, x50, x51, x52, x53, x54, x55, x56, x57, x58, x59, x60, x61, x62 => if (x19 != x21) = true then (laws_FnJubileesSummed.j6 k x16 x17 x18 x19 x22 x23 x26 x27 x28 x29 x32 x33 x34 x35 x36 x37 x41 x42 x43 x44 x45 x48 x49 x50 x51 x54 x55 x58 x59 x60 true) else (if x18 = x20 then (if (x23 != x25) = true then (laws_FnJubileesSummed.j6 k x16 x17 x18 x19 x22 x23 x26 x27 x28 x29 x32 x33 x34 x35 x36 x37 x41 x42 x43 x44 x45 x48 x49 x50 x51 x54 x55 x58 x59 x60 true) else (if x22 = x24 then (if (x29 != x31) = true then (laws_FnJubileesSummed.j6 k x16 x17 x18 x19 x22 x23 x26 x27 x28 x29 x32 x33 x34 x35 x36 x37 x41 x42 x43 x44 x45 x48 x49 x50 x51 x54 x55 x58 x59 x60 true) else (if x28 = x30 then (if (x37 != x40) = true then (laws_FnJubileesSummed.j6 k x16 x17 x18 x19 x22 x23 x26 x27 x28 x29 x32 x33 x34 x35 x36 x37 x41 x42 x43 x44 x45 x48 x49 x50 x51 x54 x55 x58 x59 x60 true) else (if x35 = x38 then (if x36 = x39 then (if (x45 != x47) = true then (laws_FnJubileesSummed.j6 k x16 x17 x18 x19 x22 x23 x26 x27 x28 x29 x32 x33 x34 x35 x36 x37 x41 x42 x43 x44 x45 x48 x49 x50 x51 x54 x55 x58 x59 x60 true) else (if x44 = x46 then (if (x51 != x53) = true then (laws_FnJubileesSummed.j6 k x16 x17 x18 x19 x22 x23 x26 x27 x28 x29 x32 x33 x34 x35 x36 x37 x41 x42 x43 x44 x45 x48 x49 x50 x51 x54 x55 x58 x59 x60 true) else ((laws_qSame.f k x50 x52).bind fun y54 => (if y54 = true then (if (x55 != x57) = true then (laws_FnJubileesSummed.j6 k x16 x17 x18 x19 x22 x23 x26 x27 x28 x29 x32 x33 x34 x35 x36 x37 x41 x42 x43 x44 x45 x48 x49 x50 x51 x54 x55 x58 x59 x60 true) else (if (x54 != x56) = true then (laws_FnJubileesSummed.j6 k x16 x17 x18 x19 x22 x23 x26 x27 x28 x29 x32 x33 x34 x35 x36 x37 x41 x42 x43 x44 x45 x48 x49 x50 x51 x54 x55 x58 x59 x60 true) else (if (x60 != x62) = true then (laws_FnJubileesSummed.j6 k x16 x17 x18 x19 x22 x23 x26 x27 x28 x29 x32 x33 x34 x35 x36 x37 x41 x42 x43 x44 x45 x48 x49 x50 x51 x54 x55 x58 x59 x60 true) else ((laws_qSame.f k x59 x61).bind fun y62 => (if y62 = true then (if x23 = true then (if x19 = true then ((impl_AreBirths.f x16).bind fun y66 => (laws_FnJubileesSummed.j6 k x16 x17 x18 x19 x22 x23 x26 x27 x28 x29 x32 x33 x34 x35 x36 x37 x41 x42 x43 x44 x45 x48 x49 x50 x51 x54 x55 x58 x59 x60 ((x55 != y66)))) else (laws_FnJubileesSummed.j6 k x16 x17 x18 x19 x22 x23 x26 x27 x28 x29 x32 x33 x34 x35 x36 x37 x41 x42 x43 x44 x45 x48 x49 x50 x51 x54 x55 x58 x59 x60 true)) else ((impl_AreBirths.f x16).bind fun y69 => (laws_FnJubileesSummed.j6 k x16 x17 x18 x19 x22 x23 x26 x27 x28 x29 x32 x33 x34 x35 x36 x37 x41 x42 x43 x44 x45 x48 x49 x50 x51 x54 x55 x58 x59 x60 ((x55 != y69))))) else (laws_FnJubileesSummed.j6 k x16 x17 x18 x19 x22 x23 x26 x27 x28 x29 x32 x33 x34 x35 x36 x37 x41 x42 x43 x44 x45 x48 x49 x50 x51 x54 x55 x58 x59 x60 true)))))) else (laws_FnJubileesSummed.j6 k x16 x17 x18 x19 x22 x23 x26 x27 x28 x29 x32 x33 x34 x35 x36 x37 x41 x42 x43 x44 x45 x48 x49 x50 x51 x54 x55 x58 x59 x60 true)))) else (laws_FnJubileesSummed.j6 k x16 x17 x18 x19 x22 x23 x26 x27 x28 x29 x32 x33 x34 x35 x36 x37 x41 x42 x43 x44 x45 x48 x49 x50 x51 x54 x55 x58 x59 x60 true))) else (laws_FnJubileesSummed.j6 k x16 x17 x18 x19 x22 x23 x26 x27 x28 x29 x32 x33 x34 x35 x36 x37 x41 x42 x43 x44 x45 x48 x49 x50 x51 x54 x55 x58 x59 x60 true)) else (laws_FnJubileesSummed.j6 k x16 x17 x18 x19 x22 x23 x26 x27 x28 x29 x32 x33 x34 x35 x36 x37 x41 x42 x43 x44 x45 x48 x49 x50 x51 x54 x55 x58 x59 x60 true))) else (laws_FnJubileesSummed.j6 k x16 x17 x18 x19 x22 x23 x26 x27 x28 x29 x32 x33 x34 x35 x36 x37 x41 x42 x43 x44 x45 x48 x49 x50 x51 x54 x55 x58 x59 x60 true))) else (laws_FnJubileesSummed.j6 k x16 x17 x18 x19 x22 x23 x26 x27 x28 x29 x32 x33 x34 x35 x36 x37 x41 x42 x43 x44 x45 x48 x49 x50 x51 x54 x55 x58 x59 x60 true))) else (laws_FnJubileesSummed.j6 k x16 x17 x18 x19 x22 x23 x26 x27 x28 x29 x32 x33 x34 x35 x36 x37 x41 x42 x43 x44 x45 x48 x49 x50 x51 x54 x55 x58 x59 x60 true))
def laws_FnJubileesSummed.j6 : Nat → List Int → Int → Int → Bool → Int → Bool → List Int → Int → Int → Bool → List Int → Int → Int → Int → Int → Bool → List Int → Int → Int → Int → Bool → List Int → List Int → List Int → Bool → List UInt8 → Bool → List UInt8 → List Int → Bool → Bool → Option (Bool)
  | 0, _, _, _, _, _, _, _, _, _, _, _, _, _, _, _, _, _, _, _, _, _, _, _, _, _, _, _, _, _, _, _ => none
  | k + 1, x16, x17, x18, x19, x22, x23, x26, x27, x28, x29, x32, x33, x34, x35, x36, x37, x41, x42, x43, x44, x45, x48, x49, x50, x51, x54, x55, x58, x59, x60, x377 => if x377 = true then (some false) else (if x19 = true then (laws_FnJubileesSummed.l1 k x17 x18 x22 x23 x26 x27 x28 x29 x32 x33 x34 x35 x36 x37 x41 x42 x43 x44 x45 x48 x49 x50 x51 x54 x55 x58 x59 x60 0 true x16 (x16.length : Int) 0) else (laws_FnJubileesSummed.j7 k x16 x17 x18 x22 x23 x26 x27 x28 x29 x32 x33 x34 x35 x36 x37 x41 x42 x43 x44 x45 x48 x49 x50 x51 x54 x55 x58 x59 x60))
def laws_FnJubileesSummed.l1 : Nat → Int → Int → Int → Bool → List Int → Int → Int → Bool → List Int → Int → Int → Int → Int → Bool → List Int → Int → Int → Int → Bool → List Int → List Int → List Int → Bool → List UInt8 → Bool → List UInt8 → List Int → Bool → Int → Bool → List Int → Int → Int → Option (Bool)
  | 0, _, _, _, _, _, _, _, _, _, _, _, _, _, _, _, _, _, _, _, _, _, _, _, _, _, _, _, _, _, _, _, _, _ => none
  | k + 1, x17, x18, x22, x23, x26, x27, x28, x29, x32, x33, x34, x35, x36, x37, x41, x42, x43, x44, x45, x48, x49, x50, x51, x54, x55, x58, x59, x60, x63, x64, x16, x380, x381 => if x381 < x380 then (if 0 ≤ x381 then (if x381 < (x16.length : Int) then (if (IntKind.i64.wrap (x17 - (rde x16 x381))) ≥ 0 then (if (IntKind.i64.wrap (x17 - (rde x16 x381))) ≤ 120 then (laws_FnJubileesSummed.l1 k x17 x18 x22 x23 x26 x27 x28 x29 x32 x33 x34 x35 x36 x37 x41 x42 x43 x44 x45 x48 x49 x50 x51 x54 x55 x58 x59 x60 (IntKind.i64.wrap (x63 + (IntKind.i64.wrap (x17 - (rde x16 x381))))) x64 x16 x380 (IntKind.i64.wrap (x381 + 1))) else (laws_FnJubileesSummed.l1 k x17 x18 x22 x23 x26 x27 x28 x29 x32 x33 x34 x35 x36 x37 x41 x42 x43 x44 x45 x48 x49 x50 x51 x54 x55 x58 x59 x60 x63 false x16 x380 (IntKind.i64.wrap (x381 + 1)))) else (laws_FnJubileesSummed.l1 k x17 x18 x22 x23 x26 x27 x28 x29 x32 x33 x34 x35 x36 x37 x41 x42 x43 x44 x45 x48 x49 x50 x51 x54 x55 x58 x59 x60 x63 false x16 x380 (IntKind.i64.wrap (x381 + 1)))) else (none)) else (none)) else (if x63 = x18 then (if x64 = true then (if (x23 != (decide (x18 > 0))) = true then (some false) else (laws_FnJubileesSummed.j7 k x16 x17 x18 x22 x23 x26 x27 x28 x29 x32 x33 x34 x35 x36 x37 x41 x42 x43 x44 x45 x48 x49 x50 x51 x54 x55 x58 x59 x60)) else (if (x23 != false) = true then (some false) else (laws_FnJubileesSummed.j7 k x16 x17 x18 x22 x23 x26 x27 x28 x29 x32 x33 x34 x35 x36 x37 x41 x42 x43 x44 x45 x48 x49 x50 x51 x54 x55 x58 x59 x60))) else (some false))
def laws_FnJubileesSummed.j7 : Nat → List Int → Int → Int → Int → Bool → List Int → Int → Int → Bool → List Int → Int → Int → Int → Int → Bool → List Int → Int → Int → Int → Bool → List Int → List Int → List Int → Bool → List UInt8 → Bool → List UInt8 → List Int → Bool → Option (Bool)
  | 0, _, _, _, _, _, _, _, _, _, _, _, _, _, _, _, _, _, _, _, _, _, _, _, _, _, _, _, _, _ => none
  | k + 1, x16, x17, x18, x22, x23, x26, x27, x28, x29, x32, x33, x34, x35, x36, x37, x41, x42, x43, x44, x45, x48, x49, x50, x51, x54, x55, x58, x59, x60 => if x23 = true then (if x22 < 1 then (laws_FnJubileesSummed.j8 k x16 x17 x22 x26 x27 x28 x29 x32 x33 x34 x35 x36 x37 x41 x42 x43 x44 x45 x48 x49 x50 x51 x54 x55 x58 x59 x60 true) else (if x22 = 0 then (none) else (laws_FnJubileesSummed.j8 k x16 x17 x22 x26 x27 x28 x29 x32 x33 x34 x35 x36 x37 x41 x42 x43 x44 x45 x48 x49 x50 x51 x54 x55 x58 x59 x60 ((x18.tmod x22) != 0)))) else (laws_FnJubileesSummed.j10 k x16 x26 x27 x28 x29 x32 x33 x34 x35 x36 x37 x41 x42 x43 x44 x45 x48 x49 x50 x51 x54 x55 x58 x59 x60)
def laws_FnJubileesSummed.j8 : Nat → List Int → Int → Int → List Int → Int → Int → Bool → List Int → Int → Int → Int → Int → Bool → List Int → Int → Int → Int → Bool → List Int → List Int → List Int → Bool → List UInt8 → Bool → List UInt8 → List Int → Bool → Bool → Option (Bool)
  | 0, _, _, _, _, _, _, _, _, _, _, _, _, _, _, _, _, _, _, _, _, _, _, _, _, _, _, _, _ => none
  | k + 1, x16, x17, x22, x26, x27, x28, x29, x32, x33, x34, x35, x36, x37, x41, x42, x43, x44, x45, x48, x49, x50, x51, x54, x55, x58, x59, x60, x418 => if x418 = true then (some false) else (laws_FnJubileesSummed.l2 k x17 x22 x26 x27 x28 x29 x32 x33 x34 x35 x36 x37 x41 x42 x43 x44 x45 x48 x49 x50 x51 x54 x55 x58 x59 x60 x16 (x16.length : Int) 0)
def laws_FnJubileesSummed.l2 : Nat → Int → Int → List Int → Int → Int → Bool → List Int → Int → Int → Int → Int → Bool → List Int → Int → Int → Int → Bool → List Int → List Int → List Int → Bool → List UInt8 → Bool → List UInt8 → List Int → Bool → List Int → Int → Int → Option (Bool)
  | 0, _, _, _, _, _, _, _, _, _, _, _, _, _, _, _, _, _, _, _, _, _, _, _, _, _, _, _, _, _ => none
  | k + 1, x17, x22, x26, x27, x28, x29, x32, x33, x34, x35, x36, x37, x41, x42, x43, x44, x45, x48, x49, x50, x51, x54, x55, x58, x59, x60, x16, x420, x421 => if x421 < x420 then (if 0 ≤ x421 then (if x421 < (x16.length : Int) then (if x22 = 0 then (none) else (if ((IntKind.i64.wrap (x17 - (rde x16 x421))).tmod x22) = 0 then (laws_FnJubileesSummed.l2 k x17 x22 x26 x27 x28 x29 x32 x33 x34 x35 x36 x37 x41 x42 x43 x44 x45 x48 x49 x50 x51 x54 x55 x58 x59 x60 x16 x420 (IntKind.i64.wrap (x421 + 1))) else (some false))) else (none)) else (none)) else (if x22 ≤ 100 then ((impl_JubileesIn.f k x16 x17 x22).bind fun y7 => (laws_FnJubileesSummed.l3 k x17 x26 x27 x28 x29 x32 x33 x34 x35 x36 x37 x41 x42 x43 x44 x45 x48 x49 x50 x51 x54 x55 x58 x59 x60 y7.1 y7.2 0 x16 (x16.length : Int) 0)) else (laws_FnJubileesSummed.j10 k x16 x26 x27 x28 x29 x32 x33 x34 x35 x36 x37 x41 x42 x43 x44 x45 x48 x49 x50 x51 x54 x55 x58 x59 x60))
def laws_FnJubileesSummed.l3 : Nat → Int → List Int → Int → Int → Bool → List Int → Int → Int → Int → Int → Bool → List Int → Int → Int → Int → Bool → List Int → List Int → List Int → Bool → List UInt8 → Bool → List UInt8 → List Int → Bool → List Int → Bool → Int → List Int → Int → Int → Option (Bool)
  | 0, _, _, _, _, _, _, _, _, _, _, _, _, _, _, _, _, _, _, _, _, _, _, _, _, _, _, _, _, _, _, _ => none
  | k + 1, x17, x26, x27, x28, x29, x32, x33, x34, x35, x36, x37, x41, x42, x43, x44, x45, x48, x49, x50, x51, x54, x55, x58, x59, x60, x70, x71, x72, x16, x442, x443 => if x443 < x442 then (if 0 ≤ x443 then (if x443 < (x16.length : Int) then (if (rde x16 x443) = x17 then (laws_FnJubileesSummed.l3 k x17 x26 x27 x28 x29 x32 x33 x34 x35 x36 x37 x41 x42 x43 x44 x45 x48 x49 x50 x51 x54 x55 x58 x59 x60 x70 x71 (IntKind.i64.wrap (x72 + 1)) x16 x442 (IntKind.i64.wrap (x443 + 1))) else (laws_FnJubileesSummed.l3 k x17 x26 x27 x28 x29 x32 x33 x34 x35 x36 x37 x41 x42 x43 x44 x45 x48 x49 x50 x51 x54 x55 x58 x59 x60 x70 x71 x72 x16 x442 (IntKind.i64.wrap (x443 + 1)))) else (none)) else (none)) else (laws_FnJubileesSummed.j9 k x16 x26 x27 x28 x29 x32 x33 x34 x35 x36 x37 x41 x42 x43 x44 x45 x48 x49 x50 x51 x54 x55 x58 x59 x60 x70 x71 x72)
def laws_FnJubileesSummed.j9 : Nat → List Int → List Int → Int → Int → Bool → List Int → Int → Int → Int → Int → Bool → List Int → Int → Int → Int → Bool → List Int → List Int → List Int → Bool → List UInt8 → Bool → List UInt8 → List Int → Bool → List Int → Bool → Int → Option (Bool)
  | 0, _, _, _, _, _, _, _, _, _, _, _, _, _, _, _, _, _, _, _, _, _, _, _, _, _, _, _, _ => none
  | k + 1, x16, x26, x27, x28, x29, x32, x33, x34, x35, x36, x37, x41, x42, x43, x44, x45, x48, x49, x50, x51, x54, x55, x58, x59, x60, x70, x71, x72 => if x71 = true then (if (IntKind.i64.wrap ((x70.length : Int) + x72)) = (x16.length : Int) then (laws_FnJubileesSummed.j10 k x16 x26 x27 x28 x29 x32 x33 x34 x35 x36 x37 x41 x42 x43 x44 x45 x48 x49 x50 x51 x54 x55 x58 x59 x60) else (some false)) else (some false)
def laws_FnJubileesSummed.j10 : Nat → List Int → List Int → Int → Int → Bool → List Int → Int → Int → Int → Int → Bool → List Int → Int → Int → Int → Bool → List Int → List Int → List Int → Bool → List UInt8 → Bool → List UInt8 → List Int → Bool → Option (Bool)
  | 0, _, _, _, _, _, _, _, _, _, _, _, _, _, _, _, _, _, _, _, _, _, _, _, _, _ => none
  | k + 1, x16, x26, x27, x28, x29, x32, x33, x34, x35, x36, x37, x41, x42, x43, x44, x45, x48, x49, x50, x51, x54, x55, x58, x59, x60 => if x29 = true then ((impl_SumOfAges.f k x26 x28).bind fun y1 => (if y1.2 = true then (laws_FnJubileesSummed.j11 k x16 x26 x27 x28 x32 x33 x34 x35 x36 x37 x41 x42 x43 x44 x45 x48 x49 x50 x51 x54 x55 x58 x59 x60 (decide (y1.1 < x27))) else (laws_FnJubileesSummed.j11 k x16 x26 x27 x28 x32 x33 x34 x35 x36 x37 x41 x42 x43 x44 x45 x48 x49 x50 x51 x54 x55 x58 x59 x60 true))) else (laws_FnJubileesSummed.j12 k x16 x32 x33 x34 x35 x36 x37 x41 x42 x43 x44 x45 x48 x49 x50 x51 x54 x55 x58 x59 x60)
def laws_FnJubileesSummed.j11 : Nat → List Int → List Int → Int → Int → List Int → Int → Int → Int → Int → Bool → List Int → Int → Int → Int → Bool → List Int → List Int → List Int → Bool → List UInt8 → Bool → List UInt8 → List Int → Bool → Bool → Option (Bool)
  | 0, _, _, _, _, _, _, _, _, _, _, _, _, _, _, _, _, _, _, _, _, _, _, _, _, _ => none
  | k + 1, x16, x26, x27, x28, x32, x33, x34, x35, x36, x37, x41, x42, x43, x44, x45, x48, x49, x50, x51, x54, x55, x58, x59, x60, x477 => if x477 = true then (some false) else (if x28 > 0 then ((impl_SumOfAges.f k x26 (IntKind.i64.wrap (x28 - 1))).bind fun y3 => (if y3.2 = true then (if y3.1 ≥ x27 then (some false) else (laws_FnJubileesSummed.j12 k x16 x32 x33 x34 x35 x36 x37 x41 x42 x43 x44 x45 x48 x49 x50 x51 x54 x55 x58 x59 x60)) else (some false))) else (laws_FnJubileesSummed.j12 k x16 x32 x33 x34 x35 x36 x37 x41 x42 x43 x44 x45 x48 x49 x50 x51 x54 x55 x58 x59 x60))
def laws_FnJubileesSummed.j12 : Nat → List Int → List Int → Int → Int → Int → Int → Bool → List Int → Int → Int → Int → Bool → List Int → List Int → List Int → Bool → List UInt8 → Bool → List UInt8 → List Int → Bool → Option (Bool)
  | 0, _, _, _, _, _, _, _, _, _, _, _, _, _, _, _, _, _, _, _, _, _ => none
  | k + 1, x16, x32, x33, x34, x35, x36, x37, x41, x42, x43, x44, x45, x48, x49, x50, x51, x54, x55, x58, x59, x60 => if x37 = true then (laws_FnJubileesSummed.l4 k x16 x32 x33 x34 x35 x36 x41 x42 x43 x44 x45 x48 x49 x50 x51 x54 x55 x58 x59 x60 2) else (laws_FnJubileesSummed.j14 k x16 x41 x42 x43 x44 x45 x48 x49 x50 x51 x54 x55 x58 x59 x60)
def laws_FnJubileesSummed.l4 : Nat → List Int → List Int → Int → Int → Int → Int → List Int → Int → Int → Int → Bool → List Int → List Int → List Int → Bool → List UInt8 → Bool → List UInt8 → List Int → Bool → Int → Option (Bool)
  | 0, _, _, _, _, _, _, _, _, _, _, _, _, _, _, _, _, _, _, _, _, _ => none
  | k + 1, x16, x32, x33, x34, x35, x36, x41, x42, x43, x44, x45, x48, x49, x50, x51, x54, x55, x58, x59, x60, x79 => if x79 ≤ x34 then ((impl_JubileesIn.f k x32 x33 x79).bind fun y2 => (laws_FnJubileesSummed.j13 k x16 x32 x33 x34 x35 x36 x41 x42 x43 x44 x45 x48 x49 x50 x51 x54 x55 x58 x59 x60 x79 y2.1 y2.2)) else (if x35 < 2 then (some false) else (if x35 > x34 then (some false) else (laws_FnJubileesSummed.j14 k x16 x41 x42 x43 x44 x45 x48 x49 x50 x51 x54 x55 x58 x59 x60)))
def laws_FnJubileesSummed.j13 : Nat → List Int → List Int → Int → Int → Int → Int → List Int → Int → Int → Int → Bool → List Int → List Int → List Int → Bool → List UInt8 → Bool → List UInt8 → List Int → Bool → Int → List Int → Bool → Option (Bool)
  | 0, _, _, _, _, _, _, _, _, _, _, _, _, _, _, _, _, _, _, _, _, _, _, _ => none
  | k + 1, x16, x32, x33, x34, x35, x36, x41, x42, x43, x44, x45, x48, x49, x50, x51, x54, x55, x58, x59, x60, x79, x80, x81 => if x81 = true then (if (x80.length : Int) > x36 then (some false) else (if (x80.length : Int) = x36 then (if x79 > x35 then (some false) else (if x79 = x35 then (laws_FnJubileesSummed.l4 k x16 x32 x33 x34 x35 x36 x41 x42 x43 x44 x45 x48 x49 x50 x51 x54 x55 x58 x59 x60 (IntKind.i64.wrap (x79 + 1))) else (laws_FnJubileesSummed.l4 k x16 x32 x33 x34 x35 x36 x41 x42 x43 x44 x45 x48 x49 x50 x51 x54 x55 x58 x59 x60 (IntKind.i64.wrap (x79 + 1))))) else (if x79 = x35 then (some false) else (laws_FnJubileesSummed.l4 k x16 x32 x33 x34 x35 x36 x41 x42 x43 x44 x45 x48 x49 x50 x51 x54 x55 x58 x59 x60 (IntKind.i64.wrap (x79 + 1)))))) else (some false)
def laws_FnJubileesSummed.j14 : Nat → List Int → List Int → Int → Int → Int → Bool → List Int → List Int → List Int → Bool → List UInt8 → Bool → List UInt8 → List Int → Bool → Option (Bool)
  | 0, _, _, _, _, _, _, _, _, _, _, _, _, _, _, _ => none
  | k + 1, x16, x41, x42, x43, x44, x45, x48, x49, x50, x51, x54, x55, x58, x59, x60 => if x45 = true then (if 0 ≤ x42 then (if x42 < (x41.length : Int) then (if 0 ≤ x43 then (if x43 < (x41.length : Int) then (if (IntKind.i64.wrap (x44 - (rde x41 x42))) = (IntKind.i64.wrap (2 * (IntKind.i64.wrap (x44 - (rde x41 x43))))) then (if x44 ≤ (rde x41 x43) then (laws_FnJubileesSummed.j15 k x16 x48 x49 x50 x51 x54 x55 x58 x59 x60 true) else (laws_FnJubileesSummed.j15 k x16 x48 x49 x50 x51 x54 x55 x58 x59 x60 (decide ((IntKind.i64.wrap (x44 - (rde x41 x42))) > 120)))) else (laws_FnJubileesSummed.j15 k x16 x48 x49 x50 x51 x54 x55 x58 x59 x60 true)) else (none)) else (none)) else (none)) else (none)) else (laws_FnJubileesSummed.j15 k x16 x48 x49 x50 x51 x54 x55 x58 x59 x60 false)
def laws_FnJubileesSummed.j15 : Nat → List Int → List Int → List Int → List Int → Bool → List UInt8 → Bool → List UInt8 → List Int → Bool → Bool → Option (Bool)
  | 0, _, _, _, _, _, _, _, _, _, _, _ => none
  | k + 1, x16, x48, x49, x50, x51, x54, x55, x58, x59, x60, x577 => if x577 = true then (some false) else (if x51 = true then (if (x50.length : Int) = (IntKind.i64.wrap ((x48.length : Int) + (x49.length : Int))) then (if 0 ≤ (x48.length : Int) then (if (x48.length : Int) ≤ (x50.length : Int) then ((laws_qSame.f k (x50.take (x48.length : Int).toNat) x48).bind fun y11 => (if y11 = true then ((laws_qSame.f k (x50.drop (x48.length : Int).toNat) x49).bind fun y15 => (laws_FnJubileesSummed.j16 k x16 x54 x55 x58 x59 x60 (!y15))) else (laws_FnJubileesSummed.j16 k x16 x54 x55 x58 x59 x60 true))) else (none)) else (none)) else (laws_FnJubileesSummed.j16 k x16 x54 x55 x58 x59 x60 true)) else (laws_FnJubileesSummed.j16 k x16 x54 x55 x58 x59 x60 false))
def laws_FnJubileesSummed.j16 : Nat → List Int → List UInt8 → Bool → List UInt8 → List Int → Bool → Bool → Option (Bool)
  | 0, _, _, _, _, _, _, _ => none
  | k + 1, x16, x54, x55, x58, x59, x60, x606 => if x606 = true then (some false) else (if x55 = true then ((impl_ParseBorn.f k x54).bind fun y1 => (if y1.2 = true then ((laws_qSame.f k y1.1 x16).bind fun y4 => (laws_FnJubileesSummed.j17 k x58 x59 x60 (!y4))) else (laws_FnJubileesSummed.j17 k x58 x59 x60 true))) else (if x60 = true then ((impl_BornText.f k x59).bind fun y6 => (if y6.2 = true then (some (y6.1 == x58)) else (some false))) else (some true)))
def laws_FnJubileesSummed.j17 : Nat → List UInt8 → List Int → Bool → Bool → Option (Bool)
  | 0, _, _, _, _ => none
  | k + 1, x58, x59, x60, x620 => if x620 = true then (some false) else (if x60 = true then ((impl_BornText.f k x59).bind fun y1 => (if y1.2 = true then (some (y1.1 == x58)) else (some false))) else (some true))
end
def laws_FnJubileesSummed.f (k : Nat) (x0 : List Int) (x1 : List Int) : Option (Bool) := (laws_big.f x0 x1).bind fun y1 => (if y1 = true then (some true) else ((spec_DrawRoundSums.f k x0).bind fun y2 => ((impl_RoundSums.f k y2.1 y2.2.1 y2.2.2.1 y2.2.2.2).bind fun y3 => ((spec_RoundSums.f k y2.1 y2.2.1 y2.2.2.1 y2.2.2.2).bind fun y4 => (if (y3.2 != y4.2) = true then (laws_FnJubileesSummed.j0 k x1 y2.1 y2.2.1 y2.2.2.1 y2.2.2.2 y3.1 y3.2 true) else ((laws_qSame.f k y3.1 y4.1).bind fun y72 => (laws_FnJubileesSummed.j0 k x1 y2.1 y2.2.1 y2.2.2.1 y2.2.2.2 y3.1 y3.2 (!y72))))))))
theorem laws_FnJubileesSummed.br_l : ∀ k, (∀ (x1 : List Int) (x5 : List Int) (x6 : Int) (x7 : Int) (x8 : Int) (x9 : List Int) (x10 : Bool) (x120 : Bool), LeO (laws_FnJubileesSummed.j0 k x1 x5 x6 x7 x8 x9 x10 x120) (S.laws_FnJubileesSummed.j0 x1 x5 x6 x7 x8 x9 x10 x120)) ∧ (∀ (x1 : List Int) (x5 : List Int) (x7 : Int) (x8 : Int) (x9 : List Int) (x13 : Int), LeO (laws_FnJubileesSummed.l0 k x1 x5 x7 x8 x9 x13) (S.laws_FnJubileesSummed.l0 x1 x5 x7 x8 x9 x13)) ∧ (∀ (x1 : List Int) (x5 : List Int) (x7 : Int) (x8 : Int) (x9 : List Int) (x13 : Int) (x14 : Int) (x15 : Bool), LeO (laws_FnJubileesSummed.j1 k x1 x5 x7 x8 x9 x13 x14 x15) (S.laws_FnJubileesSummed.j1 x1 x5 x7 x8 x9 x13 x14 x15)) ∧ (∀ (x1 : List Int), LeO (laws_FnJubileesSummed.j2 k x1) (S.laws_FnJubileesSummed.j2 x1)) ∧ (∀ (x1 : List Int) (x16 : List Int) (x17 : Int) (x18 : Int) (x19 : Bool) (x20 : Int) (x21 : Bool) (x22 : Int) (x23 : Bool) (x24 : Int) (x25 : Bool), LeO (laws_FnJubileesSummed.j3 k x1 x16 x17 x18 x19 x20 x21 x22 x23 x24 x25) (S.laws_FnJubileesSummed.j3 x1 x16 x17 x18 x19 x20 x21 x22 x23 x24 x25)) ∧ (∀ (x1 : List Int) (x16 : List Int) (x17 : Int) (x18 : Int) (x19 : Bool) (x20 : Int) (x21 : Bool) (x22 : Int) (x23 : Bool) (x24 : Int) (x25 : Bool) (x26 : List Int) (x27 : Int) (x28 : Int) (x29 : Bool) (x30 : Int) (x31 : Bool) (x32 : List Int) (x33 : Int) (x34 : Int) (x35 : Int) (x36 : Int) (x37 : Bool) (x38 : Int) (x39 : Int) (x40 : Bool) (x41 : List Int) (x42 : Int) (x43 : Int) (x44 : Int) (x45 : Bool) (x46 : Int) (x47 : Bool) (x48 : List Int) (x49 : List Int), LeO (laws_FnJubileesSummed.j4 k x1 x16 x17 x18 x19 x20 x21 x22 x23 x24 x25 x26 x27 x28 x29 x30 x31 x32 x33 x34 x35 x36 x37 x38 x39 x40 x41 x42 x43 x44 x45 x46 x47 x48 x49) (S.laws_FnJubileesSummed.j4 x1 x16 x17 x18 x19 x20 x21 x22 x23 x24 x25 x26 x27 x28 x29 x30 x31 x32 x33 x34 x35 x36 x37 x38 x39 x40 x41 x42 x43 x44 x45 x46 x47 x48 x49)) ∧ (∀ (x16 : List Int) (x17 : Int) (x18 : Int) (x19 : Bool) (x20 : Int) (x21 : Bool) (x22 : Int) (x23 : Bool) (x24 : Int) (x25 : Bool) (x26 : List Int) (x27 : Int) (x28 : Int) (x29 : Bool) (x30 : Int) (x31 : Bool) (x32 : List Int) (x33 : Int) (x34 : Int) (x35 : Int) (x36 : Int) (x37 : Bool) (x38 : Int) (x39 : Int) (x40 : Bool) (x41 : List Int) (x42 : Int) (x43 : Int) (x44 : Int) (x45 : Bool) (x46 : Int) (x47 : Bool) (x48 : List Int) (x49 : List Int) (x50 : List Int) (x51 : Bool) (x52 : List Int) (x53 : Bool) (x54 : List UInt8) (x55 : Bool) (x56 : List UInt8) (x57 : Bool) (x58 : List UInt8) (x59 : List Int) (x60 : Bool) (x61 : List Int) (x62 : Bool), LeO (laws_FnJubileesSummed.j5 k x16 x17 x18 x19 x20 x21 x22 x23 x24 x25 x26 x27 x28 x29 x30 x31 x32 x33 x34 x35 x36 x37 x38 x39 x40 x41 x42 x43 x44 x45 x46 x47 x48 x49 x50 x51 x52 x53 x54 x55 x56 x57 x58 x59 x60 x61 x62) (S.laws_FnJubileesSummed.j5 x16 x17 x18 x19 x20 x21 x22 x23 x24 x25 x26 x27 x28 x29 x30 x31 x32 x33 x34 x35 x36 x37 x38 x39 x40 x41 x42 x43 x44 x45 x46 x47 x48 x49 x50 x51 x52 x53 x54 x55 x56 x57 x58 x59 x60 x61 x62)) ∧ (∀ (x16 : List Int) (x17 : Int) (x18 : Int) (x19 : Bool) (x22 : Int) (x23 : Bool) (x26 : List Int) (x27 : Int) (x28 : Int) (x29 : Bool) (x32 : List Int) (x33 : Int) (x34 : Int) (x35 : Int) (x36 : Int) (x37 : Bool) (x41 : List Int) (x42 : Int) (x43 : Int) (x44 : Int) (x45 : Bool) (x48 : List Int) (x49 : List Int) (x50 : List Int) (x51 : Bool) (x54 : List UInt8) (x55 : Bool) (x58 : List UInt8) (x59 : List Int) (x60 : Bool) (x377 : Bool), LeO (laws_FnJubileesSummed.j6 k x16 x17 x18 x19 x22 x23 x26 x27 x28 x29 x32 x33 x34 x35 x36 x37 x41 x42 x43 x44 x45 x48 x49 x50 x51 x54 x55 x58 x59 x60 x377) (S.laws_FnJubileesSummed.j6 x16 x17 x18 x19 x22 x23 x26 x27 x28 x29 x32 x33 x34 x35 x36 x37 x41 x42 x43 x44 x45 x48 x49 x50 x51 x54 x55 x58 x59 x60 x377)) ∧ (∀ (x16 : List Int) (x17 : Int) (x18 : Int) (x22 : Int) (x23 : Bool) (x26 : List Int) (x27 : Int) (x28 : Int) (x29 : Bool) (x32 : List Int) (x33 : Int) (x34 : Int) (x35 : Int) (x36 : Int) (x37 : Bool) (x41 : List Int) (x42 : Int) (x43 : Int) (x44 : Int) (x45 : Bool) (x48 : List Int) (x49 : List Int) (x50 : List Int) (x51 : Bool) (x54 : List UInt8) (x55 : Bool) (x58 : List UInt8) (x59 : List Int) (x60 : Bool) (x63 : Int) (x64 : Bool) (x380 : Int) (x381 : Int), LeO (laws_FnJubileesSummed.l1 k x17 x18 x22 x23 x26 x27 x28 x29 x32 x33 x34 x35 x36 x37 x41 x42 x43 x44 x45 x48 x49 x50 x51 x54 x55 x58 x59 x60 x63 x64 x16 x380 x381) (S.laws_FnJubileesSummed.l1 x16 x17 x18 x22 x23 x26 x27 x28 x29 x32 x33 x34 x35 x36 x37 x41 x42 x43 x44 x45 x48 x49 x50 x51 x54 x55 x58 x59 x60 x63 x64 x380 x381)) ∧ (∀ (x16 : List Int) (x17 : Int) (x18 : Int) (x22 : Int) (x23 : Bool) (x26 : List Int) (x27 : Int) (x28 : Int) (x29 : Bool) (x32 : List Int) (x33 : Int) (x34 : Int) (x35 : Int) (x36 : Int) (x37 : Bool) (x41 : List Int) (x42 : Int) (x43 : Int) (x44 : Int) (x45 : Bool) (x48 : List Int) (x49 : List Int) (x50 : List Int) (x51 : Bool) (x54 : List UInt8) (x55 : Bool) (x58 : List UInt8) (x59 : List Int) (x60 : Bool), LeO (laws_FnJubileesSummed.j7 k x16 x17 x18 x22 x23 x26 x27 x28 x29 x32 x33 x34 x35 x36 x37 x41 x42 x43 x44 x45 x48 x49 x50 x51 x54 x55 x58 x59 x60) (S.laws_FnJubileesSummed.j7 x16 x17 x18 x22 x23 x26 x27 x28 x29 x32 x33 x34 x35 x36 x37 x41 x42 x43 x44 x45 x48 x49 x50 x51 x54 x55 x58 x59 x60)) ∧ (∀ (x16 : List Int) (x17 : Int) (x22 : Int) (x26 : List Int) (x27 : Int) (x28 : Int) (x29 : Bool) (x32 : List Int) (x33 : Int) (x34 : Int) (x35 : Int) (x36 : Int) (x37 : Bool) (x41 : List Int) (x42 : Int) (x43 : Int) (x44 : Int) (x45 : Bool) (x48 : List Int) (x49 : List Int) (x50 : List Int) (x51 : Bool) (x54 : List UInt8) (x55 : Bool) (x58 : List UInt8) (x59 : List Int) (x60 : Bool) (x418 : Bool), LeO (laws_FnJubileesSummed.j8 k x16 x17 x22 x26 x27 x28 x29 x32 x33 x34 x35 x36 x37 x41 x42 x43 x44 x45 x48 x49 x50 x51 x54 x55 x58 x59 x60 x418) (S.laws_FnJubileesSummed.j8 x16 x17 x22 x26 x27 x28 x29 x32 x33 x34 x35 x36 x37 x41 x42 x43 x44 x45 x48 x49 x50 x51 x54 x55 x58 x59 x60 x418)) ∧ (∀ (x16 : List Int) (x17 : Int) (x22 : Int) (x26 : List Int) (x27 : Int) (x28 : Int) (x29 : Bool) (x32 : List Int) (x33 : Int) (x34 : Int) (x35 : Int) (x36 : Int) (x37 : Bool) (x41 : List Int) (x42 : Int) (x43 : Int) (x44 : Int) (x45 : Bool) (x48 : List Int) (x49 : List Int) (x50 : List Int) (x51 : Bool) (x54 : List UInt8) (x55 : Bool) (x58 : List UInt8) (x59 : List Int) (x60 : Bool) (x420 : Int) (x421 : Int), LeO (laws_FnJubileesSummed.l2 k x17 x22 x26 x27 x28 x29 x32 x33 x34 x35 x36 x37 x41 x42 x43 x44 x45 x48 x49 x50 x51 x54 x55 x58 x59 x60 x16 x420 x421) (S.laws_FnJubileesSummed.l2 x16 x17 x22 x26 x27 x28 x29 x32 x33 x34 x35 x36 x37 x41 x42 x43 x44 x45 x48 x49 x50 x51 x54 x55 x58 x59 x60 x420 x421)) ∧ (∀ (x16 : List Int) (x17 : Int) (x26 : List Int) (x27 : Int) (x28 : Int) (x29 : Bool) (x32 : List Int) (x33 : Int) (x34 : Int) (x35 : Int) (x36 : Int) (x37 : Bool) (x41 : List Int) (x42 : Int) (x43 : Int) (x44 : Int) (x45 : Bool) (x48 : List Int) (x49 : List Int) (x50 : List Int) (x51 : Bool) (x54 : List UInt8) (x55 : Bool) (x58 : List UInt8) (x59 : List Int) (x60 : Bool) (x70 : List Int) (x71 : Bool) (x72 : Int) (x442 : Int) (x443 : Int), LeO (laws_FnJubileesSummed.l3 k x17 x26 x27 x28 x29 x32 x33 x34 x35 x36 x37 x41 x42 x43 x44 x45 x48 x49 x50 x51 x54 x55 x58 x59 x60 x70 x71 x72 x16 x442 x443) (S.laws_FnJubileesSummed.l3 x16 x17 x26 x27 x28 x29 x32 x33 x34 x35 x36 x37 x41 x42 x43 x44 x45 x48 x49 x50 x51 x54 x55 x58 x59 x60 x70 x71 x72 x442 x443)) ∧ (∀ (x16 : List Int) (x26 : List Int) (x27 : Int) (x28 : Int) (x29 : Bool) (x32 : List Int) (x33 : Int) (x34 : Int) (x35 : Int) (x36 : Int) (x37 : Bool) (x41 : List Int) (x42 : Int) (x43 : Int) (x44 : Int) (x45 : Bool) (x48 : List Int) (x49 : List Int) (x50 : List Int) (x51 : Bool) (x54 : List UInt8) (x55 : Bool) (x58 : List UInt8) (x59 : List Int) (x60 : Bool) (x70 : List Int) (x71 : Bool) (x72 : Int), LeO (laws_FnJubileesSummed.j9 k x16 x26 x27 x28 x29 x32 x33 x34 x35 x36 x37 x41 x42 x43 x44 x45 x48 x49 x50 x51 x54 x55 x58 x59 x60 x70 x71 x72) (S.laws_FnJubileesSummed.j9 x16 x26 x27 x28 x29 x32 x33 x34 x35 x36 x37 x41 x42 x43 x44 x45 x48 x49 x50 x51 x54 x55 x58 x59 x60 x70 x71 x72)) ∧ (∀ (x16 : List Int) (x26 : List Int) (x27 : Int) (x28 : Int) (x29 : Bool) (x32 : List Int) (x33 : Int) (x34 : Int) (x35 : Int) (x36 : Int) (x37 : Bool) (x41 : List Int) (x42 : Int) (x43 : Int) (x44 : Int) (x45 : Bool) (x48 : List Int) (x49 : List Int) (x50 : List Int) (x51 : Bool) (x54 : List UInt8) (x55 : Bool) (x58 : List UInt8) (x59 : List Int) (x60 : Bool), LeO (laws_FnJubileesSummed.j10 k x16 x26 x27 x28 x29 x32 x33 x34 x35 x36 x37 x41 x42 x43 x44 x45 x48 x49 x50 x51 x54 x55 x58 x59 x60) (S.laws_FnJubileesSummed.j10 x16 x26 x27 x28 x29 x32 x33 x34 x35 x36 x37 x41 x42 x43 x44 x45 x48 x49 x50 x51 x54 x55 x58 x59 x60)) ∧ (∀ (x16 : List Int) (x26 : List Int) (x27 : Int) (x28 : Int) (x32 : List Int) (x33 : Int) (x34 : Int) (x35 : Int) (x36 : Int) (x37 : Bool) (x41 : List Int) (x42 : Int) (x43 : Int) (x44 : Int) (x45 : Bool) (x48 : List Int) (x49 : List Int) (x50 : List Int) (x51 : Bool) (x54 : List UInt8) (x55 : Bool) (x58 : List UInt8) (x59 : List Int) (x60 : Bool) (x477 : Bool), LeO (laws_FnJubileesSummed.j11 k x16 x26 x27 x28 x32 x33 x34 x35 x36 x37 x41 x42 x43 x44 x45 x48 x49 x50 x51 x54 x55 x58 x59 x60 x477) (S.laws_FnJubileesSummed.j11 x16 x26 x27 x28 x32 x33 x34 x35 x36 x37 x41 x42 x43 x44 x45 x48 x49 x50 x51 x54 x55 x58 x59 x60 x477)) ∧ (∀ (x16 : List Int) (x32 : List Int) (x33 : Int) (x34 : Int) (x35 : Int) (x36 : Int) (x37 : Bool) (x41 : List Int) (x42 : Int) (x43 : Int) (x44 : Int) (x45 : Bool) (x48 : List Int) (x49 : List Int) (x50 : List Int) (x51 : Bool) (x54 : List UInt8) (x55 : Bool) (x58 : List UInt8) (x59 : List Int) (x60 : Bool), LeO (laws_FnJubileesSummed.j12 k x16 x32 x33 x34 x35 x36 x37 x41 x42 x43 x44 x45 x48 x49 x50 x51 x54 x55 x58 x59 x60) (S.laws_FnJubileesSummed.j12 x16 x32 x33 x34 x35 x36 x37 x41 x42 x43 x44 x45 x48 x49 x50 x51 x54 x55 x58 x59 x60)) ∧ (∀ (x16 : List Int) (x32 : List Int) (x33 : Int) (x34 : Int) (x35 : Int) (x36 : Int) (x41 : List Int) (x42 : Int) (x43 : Int) (x44 : Int) (x45 : Bool) (x48 : List Int) (x49 : List Int) (x50 : List Int) (x51 : Bool) (x54 : List UInt8) (x55 : Bool) (x58 : List UInt8) (x59 : List Int) (x60 : Bool) (x79 : Int), LeO (laws_FnJubileesSummed.l4 k x16 x32 x33 x34 x35 x36 x41 x42 x43 x44 x45 x48 x49 x50 x51 x54 x55 x58 x59 x60 x79) (S.laws_FnJubileesSummed.l4 x16 x32 x33 x34 x35 x36 x41 x42 x43 x44 x45 x48 x49 x50 x51 x54 x55 x58 x59 x60 x79)) ∧ (∀ (x16 : List Int) (x32 : List Int) (x33 : Int) (x34 : Int) (x35 : Int) (x36 : Int) (x41 : List Int) (x42 : Int) (x43 : Int) (x44 : Int) (x45 : Bool) (x48 : List Int) (x49 : List Int) (x50 : List Int) (x51 : Bool) (x54 : List UInt8) (x55 : Bool) (x58 : List UInt8) (x59 : List Int) (x60 : Bool) (x79 : Int) (x80 : List Int) (x81 : Bool), LeO (laws_FnJubileesSummed.j13 k x16 x32 x33 x34 x35 x36 x41 x42 x43 x44 x45 x48 x49 x50 x51 x54 x55 x58 x59 x60 x79 x80 x81) (S.laws_FnJubileesSummed.j13 x16 x32 x33 x34 x35 x36 x41 x42 x43 x44 x45 x48 x49 x50 x51 x54 x55 x58 x59 x60 x79 x80 x81)) ∧ (∀ (x16 : List Int) (x41 : List Int) (x42 : Int) (x43 : Int) (x44 : Int) (x45 : Bool) (x48 : List Int) (x49 : List Int) (x50 : List Int) (x51 : Bool) (x54 : List UInt8) (x55 : Bool) (x58 : List UInt8) (x59 : List Int) (x60 : Bool), LeO (laws_FnJubileesSummed.j14 k x16 x41 x42 x43 x44 x45 x48 x49 x50 x51 x54 x55 x58 x59 x60) (S.laws_FnJubileesSummed.j14 x16 x41 x42 x43 x44 x45 x48 x49 x50 x51 x54 x55 x58 x59 x60)) ∧ (∀ (x16 : List Int) (x48 : List Int) (x49 : List Int) (x50 : List Int) (x51 : Bool) (x54 : List UInt8) (x55 : Bool) (x58 : List UInt8) (x59 : List Int) (x60 : Bool) (x577 : Bool), LeO (laws_FnJubileesSummed.j15 k x16 x48 x49 x50 x51 x54 x55 x58 x59 x60 x577) (S.laws_FnJubileesSummed.j15 x16 x48 x49 x50 x51 x54 x55 x58 x59 x60 x577)) ∧ (∀ (x16 : List Int) (x54 : List UInt8) (x55 : Bool) (x58 : List UInt8) (x59 : List Int) (x60 : Bool) (x606 : Bool), LeO (laws_FnJubileesSummed.j16 k x16 x54 x55 x58 x59 x60 x606) (S.laws_FnJubileesSummed.j16 x16 x54 x55 x58 x59 x60 x606)) ∧ (∀ (x58 : List UInt8) (x59 : List Int) (x60 : Bool) (x620 : Bool), LeO (laws_FnJubileesSummed.j17 k x58 x59 x60 x620) (S.laws_FnJubileesSummed.j17 x58 x59 x60 x620))
  | 0 => ⟨fun _ _ _ _ _ _ _ _ => LeO.none _, fun _ _ _ _ _ _ => LeO.none _, fun _ _ _ _ _ _ _ _ => LeO.none _, fun _ => LeO.none _, fun _ _ _ _ _ _ _ _ _ _ _ => LeO.none _, fun _ _ _ _ _ _ _ _ _ _ _ _ _ _ _ _ _ _ _ _ _ _ _ _ _ _ _ _ _ _ _ _ _ _ _ => LeO.none _, fun _ _ _ _ _ _ _ _ _ _ _ _ _ _ _ _ _ _ _ _ _ _ _ _ _ _ _ _ _ _ _ _ _ _ _ _ _ _ _ _ _ _ _ _ _ _ _ => LeO.none _, fun _ _ _ _ _ _ _ _ _ _ _ _ _ _ _ _ _ _ _ _ _ _ _ _ _ _ _ _ _ _ _ => LeO.none _, fun _ _ _ _ _ _ _ _ _ _ _ _ _ _ _ _ _ _ _ _ _ _ _ _ _ _ _ _ _ _ _ _ _ => LeO.none _, fun _ _ _ _ _ _ _ _ _ _ _ _ _ _ _ _ _ _ _ _ _ _ _ _ _ _ _ _ _ => LeO.none _, fun _ _ _ _ _ _ _ _ _ _ _ _ _ _ _ _ _ _ _ _ _ _ _ _ _ _ _ _ => LeO.none _, fun _ _ _ _ _ _ _ _ _ _ _ _ _ _ _ _ _ _ _ _ _ _ _ _ _ _ _ _ _ => LeO.none _, fun _ _ _ _ _ _ _ _ _ _ _ _ _ _ _ _ _ _ _ _ _ _ _ _ _ _ _ _ _ _ _ => LeO.none _, fun _ _ _ _ _ _ _ _ _ _ _ _ _ _ _ _ _ _ _ _ _ _ _ _ _ _ _ _ => LeO.none _, fun _ _ _ _ _ _ _ _ _ _ _ _ _ _ _ _ _ _ _ _ _ _ _ _ _ => LeO.none _, fun _ _ _ _ _ _ _ _ _ _ _ _ _ _ _ _ _ _ _ _ _ _ _ _ _ => LeO.none _, fun _ _ _ _ _ _ _ _ _ _ _ _ _ _ _ _ _ _ _ _ _ => LeO.none _, fun _ _ _ _ _ _ _ _ _ _ _ _ _ _ _ _ _ _ _ _ _ => LeO.none _, fun _ _ _ _ _ _ _ _ _ _ _ _ _ _ _ _ _ _ _ _ _ _ _ => LeO.none _, fun _ _ _ _ _ _ _ _ _ _ _ _ _ _ _ => LeO.none _, fun _ _ _ _ _ _ _ _ _ _ _ => LeO.none _, fun _ _ _ _ _ _ _ => LeO.none _, fun _ _ _ _ => LeO.none _⟩
  | k + 1 => by
    have ih := laws_FnJubileesSummed.br_l k
    obtain ⟨ih_j0, ih_l0, ih_j1, ih_j2, ih_j3, ih_j4, ih_j5, ih_j6, ih_l1, ih_j7, ih_j8, ih_l2, ih_l3, ih_j9, ih_j10, ih_j11, ih_j12, ih_l4, ih_j13, ih_j14, ih_j15, ih_j16, ih_j17⟩ := ih
    refine ⟨fun x1 x5 x6 x7 x8 x9 x10 x120 => ?_, fun x1 x5 x7 x8 x9 x13 => ?_, fun x1 x5 x7 x8 x9 x13 x14 x15 => ?_, fun x1 => ?_, fun x1 x16 x17 x18 x19 x20 x21 x22 x23 x24 x25 => ?_, fun x1 x16 x17 x18 x19 x20 x21 x22 x23 x24 x25 x26 x27 x28 x29 x30 x31 x32 x33 x34 x35 x36 x37 x38 x39 x40 x41 x42 x43 x44 x45 x46 x47 x48 x49 => ?_, fun x16 x17 x18 x19 x20 x21 x22 x23 x24 x25 x26 x27 x28 x29 x30 x31 x32 x33 x34 x35 x36 x37 x38 x39 x40 x41 x42 x43 x44 x45 x46 x47 x48 x49 x50 x51 x52 x53 x54 x55 x56 x57 x58 x59 x60 x61 x62 => ?_, fun x16 x17 x18 x19 x22 x23 x26 x27 x28 x29 x32 x33 x34 x35 x36 x37 x41 x42 x43 x44 x45 x48 x49 x50 x51 x54 x55 x58 x59 x60 x377 => ?_, fun x16 x17 x18 x22 x23 x26 x27 x28 x29 x32 x33 x34 x35 x36 x37 x41 x42 x43 x44 x45 x48 x49 x50 x51 x54 x55 x58 x59 x60 x63 x64 x380 x381 => ?_, fun x16 x17 x18 x22 x23 x26 x27 x28 x29 x32 x33 x34 x35 x36 x37 x41 x42 x43 x44 x45 x48 x49 x50 x51 x54 x55 x58 x59 x60 => ?_, fun x16 x17 x22 x26 x27 x28 x29 x32 x33 x34 x35 x36 x37 x41 x42 x43 x44 x45 x48 x49 x50 x51 x54 x55 x58 x59 x60 x418 => ?_, fun x16 x17 x22 x26 x27 x28 x29 x32 x33 x34 x35 x36 x37 x41 x42 x43 x44 x45 x48 x49 x50 x51 x54 x55 x58 x59 x60 x420 x421 => ?_, fun x16 x17 x26 x27 x28 x29 x32 x33 x34 x35 x36 x37 x41 x42 x43 x44 x45 x48 x49 x50 x51 x54 x55 x58 x59 x60 x70 x71 x72 x442 x443 => ?_, fun x16 x26 x27 x28 x29 x32 x33 x34 x35 x36 x37 x41 x42 x43 x44 x45 x48 x49 x50 x51 x54 x55 x58 x59 x60 x70 x71 x72 => ?_, fun x16 x26 x27 x28 x29 x32 x33 x34 x35 x36 x37 x41 x42 x43 x44 x45 x48 x49 x50 x51 x54 x55 x58 x59 x60 => ?_, fun x16 x26 x27 x28 x32 x33 x34 x35 x36 x37 x41 x42 x43 x44 x45 x48 x49 x50 x51 x54 x55 x58 x59 x60 x477 => ?_, fun x16 x32 x33 x34 x35 x36 x37 x41 x42 x43 x44 x45 x48 x49 x50 x51 x54 x55 x58 x59 x60 => ?_, fun x16 x32 x33 x34 x35 x36 x41 x42 x43 x44 x45 x48 x49 x50 x51 x54 x55 x58 x59 x60 x79 => ?_, fun x16 x32 x33 x34 x35 x36 x41 x42 x43 x44 x45 x48 x49 x50 x51 x54 x55 x58 x59 x60 x79 x80 x81 => ?_, fun x16 x41 x42 x43 x44 x45 x48 x49 x50 x51 x54 x55 x58 x59 x60 => ?_, fun x16 x48 x49 x50 x51 x54 x55 x58 x59 x60 x577 => ?_, fun x16 x54 x55 x58 x59 x60 x606 => ?_, fun x58 x59 x60 x620 => ?_⟩
    · refine LeO.of (S.laws_FnJubileesSummed.j0.eq _ _ _ _ _ _ _ _) ?_
      unfold laws_FnJubileesSummed.j0
      exact (LeO.ite' (fun h0 => LeO.refl _) (fun h0 => (LeO.ite' (fun h1 => (LeO.bind (laws_qRises.f.br k _) (fun y1 => (LeO.nob (fun h2 => (ih_l0 _ _ _ _ _ _)) (fun h2 => LeO.refl _))))) (fun h1 => (ih_j2 _)))))
    · refine LeO.of (S.laws_FnJubileesSummed.l0.eq _ _ _ _ _ _) ?_
      unfold laws_FnJubileesSummed.l0
      exact (LeO.dec (fun h0 => (LeO.bind (impl_SumOfAges.f.br k _ _) (fun y2 => (ih_j1 _ _ _ _ _ _ _ _)))) (fun h0 => (ih_j2 _)))
    · refine LeO.of (S.laws_FnJubileesSummed.j1.eq _ _ _ _ _ _ _ _) ?_
      unfold laws_FnJubileesSummed.j1
      exact (LeO.nob (fun h0 => (LeO.bind (laws_qHas.f.br k _ _) (fun y1 => (LeO.dec (fun h1 => (LeO.ite (LeO.none _) (LeO.ite' (fun h2 => LeO.refl _) (fun h2 => (ih_l0 _ _ _ _ _ _))))) (fun h1 => (LeO.ite' (fun h2 => LeO.refl _) (fun h2 => (ih_l0 _ _ _ _ _ _)))))))) (fun h0 => LeO.refl _))
    · refine LeO.of (S.laws_FnJubileesSummed.j2.eq _) ?_
      unfold laws_FnJubileesSummed.j2
      exact (LeO.bind (spec_DrawSumOfAges.f.br k _) (fun y1 => (LeO.bind (impl_SumOfAges.f.br k _ _) (fun y2 => (LeO.bind (spec_SumOfAges.f.br k _ _) (fun y3 => (LeO.bind (impl_SharedEvery.f.br k _ _) (fun y4 => (LeO.bind (spec_SharedEvery.f.br k _ _) (fun y5 => (ih_j3 _ _ _ _ _ _ _ _ _ _ _)))))))))))
    · refine LeO.of (S.laws_FnJubileesSummed.j3.eq _ _ _ _ _ _ _ _ _ _ _) ?_
      unfold laws_FnJubileesSummed.j3
      exact (LeO.bind (spec_DrawYearOfSum.f.br k _) (fun y1 => (LeO.bind (impl_YearOfSum.f.br k _ _) (fun y2 => (LeO.bind (spec_YearOfSum.f.br k _ _) (fun y3 => (LeO.bind (spec_DrawBestEvery.f.br k _) (fun y4 => (LeO.bind (impl_BestEvery.f.br k _ _ _) (fun y5 => (LeO.bind (spec_BestEvery.f.br k _ _ _) (fun y6 => (LeO.bind (spec_DrawDoubleYear.f.br k _) (fun y7 => (LeO.bind (impl_DoubleYear.f.br k _ _ _) (fun y8 => (LeO.bind (spec_DoubleYear.f.br k _ _ _) (fun y9 => (LeO.bind (spec_DrawJoinBorn.f.br k _) (fun y10 => (ih_j4 _ _ _ _ _ _ _ _ _ _ _ _ _ _ _ _ _ _ _ _ _ _ _ _ _ _ _ _ _ _ _ _ _ _ _)))))))))))))))))))))
    · refine LeO.of (S.laws_FnJubileesSummed.j4.eq _ _ _ _ _ _ _ _ _ _ _ _ _ _ _ _ _ _ _ _ _ _ _ _ _ _ _ _ _ _ _ _ _ _ _) ?_
      unfold laws_FnJubileesSummed.j4
      exact (LeO.bind (impl_JoinBorn.f.br k _ _) (fun y1 => (LeO.bind (spec_JoinBorn.f.br k _ _) (fun y2 => (LeO.bind (impl_BornText.f.br k _) (fun y3 => (LeO.bind (spec_BornText.f.br k _) (fun y4 => (LeO.bind (spec_DrawParseBorn.f.br k _) (fun y5 => (LeO.bind (impl_ParseBorn.f.br k _) (fun y6 => (LeO.bind (spec_ParseBorn.f.br k _) (fun y7 => (ih_j5 _ _ _ _ _ _ _ _ _ _ _ _ _ _ _ _ _ _ _ _ _ _ _ _ _ _ _ _ _ _ _ _ _ _ _ _ _ _ _ _ _ _ _ _ _ _ _)))))))))))))))
    · refine LeO.of (S.laws_FnJubileesSummed.j5.eq _ _ _ _ _ _ _ _ _ _ _ _ _ _ _ _ _ _ _ _ _ _ _ _ _ _ _ _ _ _ _ _ _ _ _ _ _ _ _ _ _ _ _ _ _ _ _) ?_
      unfold laws_FnJubileesSummed.j5
      exact (LeO.ite' (fun h0 => (ih_j6 _ _ _ _ _ _ _ _ _ _ _ _ _ _ _ _ _ _ _ _ _ _ _ _ _ _ _ _ _ _ _)) (fun h0 => (LeO.bne (fun h1 => (LeO.ite' (fun h2 => (ih_j6 _ _ _ _ _ _ _ _ _ _ _ _ _ _ _ _ _ _ _ _ _ _ _ _ _ _ _ _ _ _ _)) (fun h2 => (LeO.bne (fun h3 => (LeO.ite' (fun h4 => (ih_j6 _ _ _ _ _ _ _ _ _ _ _ _ _ _ _ _ _ _ _ _ _ _ _ _ _ _ _ _ _ _ _)) (fun h4 => (LeO.bne (fun h5 => (LeO.ite' (fun h6 => (ih_j6 _ _ _ _ _ _ _ _ _ _ _ _ _ _ _ _ _ _ _ _ _ _ _ _ _ _ _ _ _ _ _)) (fun h6 => (LeO.bne (fun h7 => (LeO.bne (fun h8 => (LeO.ite' (fun h9 => (ih_j6 _ _ _ _ _ _ _ _ _ _ _ _ _ _ _ _ _ _ _ _ _ _ _ _ _ _ _ _ _ _ _)) (fun h9 => (LeO.bne (fun h10 => (LeO.ite' (fun h11 => (ih_j6 _ _ _ _ _ _ _ _ _ _ _ _ _ _ _ _ _ _ _ _ _ _ _ _ _ _ _ _ _ _ _)) (fun h11 => (LeO.bind (laws_qSame.f.br k _ _) (fun y54 => (LeO.nob (fun h12 => (LeO.ite' (fun h13 => (ih_j6 _ _ _ _ _ _ _ _ _ _ _ _ _ _ _ _ _ _ _ _ _ _ _ _ _ _ _ _ _ _ _)) (fun h13 => (LeO.ite' (fun h14 => (ih_j6 _ _ _ _ _ _ _ _ _ _ _ _ _ _ _ _ _ _ _ _ _ _ _ _ _ _ _ _ _ _ _)) (fun h14 => (LeO.ite' (fun h15 => (ih_j6 _ _ _ _ _ _ _ _ _ _ _ _ _ _ _ _ _ _ _ _ _ _ _ _ _ _ _ _ _ _ _)) (fun h15 => (LeO.bind (laws_qSame.f.br k _ _) (fun y62 => (LeO.nob (fun h16 => (LeO.ite' (fun h17 => (LeO.nob (fun h18 => (LeO.bind (impl_AreBirths.f.br _) (fun y66 => (ih_j6 _ _ _ _ _ _ _ _ _ _ _ _ _ _ _ _ _ _ _ _ _ _ _ _ _ _ _ _ _ _ _)))) (fun h18 => (ih_j6 _ _ _ _ _ _ _ _ _ _ _ _ _ _ _ _ _ _ _ _ _ _ _ _ _ _ _ _ _ _ _)))) (fun h17 => (LeO.bind (impl_AreBirths.f.br _) (fun y69 => (ih_j6 _ _ _ _ _ _ _ _ _ _ _ _ _ _ _ _ _ _ _ _ _ _ _ _ _ _ _ _ _ _ _)))))) (fun h16 => (ih_j6 _ _ _ _ _ _ _ _ _ _ _ _ _ _ _ _ _ _ _ _ _ _ _ _ _ _ _ _ _ _ _)))))))))))) (fun h12 => (ih_j6 _ _ _ _ _ _ _ _ _ _ _ _ _ _ _ _ _ _ _ _ _ _ _ _ _ _ _ _ _ _ _)))))))) (fun h10 => (ih_j6 _ _ _ _ _ _ _ _ _ _ _ _ _ _ _ _ _ _ _ _ _ _ _ _ _ _ _ _ _ _ _)))))) (fun h8 => (ih_j6 _ _ _ _ _ _ _ _ _ _ _ _ _ _ _ _ _ _ _ _ _ _ _ _ _ _ _ _ _ _ _)))) (fun h7 => (ih_j6 _ _ _ _ _ _ _ _ _ _ _ _ _ _ _ _ _ _ _ _ _ _ _ _ _ _ _ _ _ _ _)))))) (fun h5 => (ih_j6 _ _ _ _ _ _ _ _ _ _ _ _ _ _ _ _ _ _ _ _ _ _ _ _ _ _ _ _ _ _ _)))))) (fun h3 => (ih_j6 _ _ _ _ _ _ _ _ _ _ _ _ _ _ _ _ _ _ _ _ _ _ _ _ _ _ _ _ _ _ _)))))) (fun h1 => (ih_j6 _ _ _ _ _ _ _ _ _ _ _ _ _ _ _ _ _ _ _ _ _ _ _ _ _ _ _ _ _ _ _)))))
    · refine LeO.of (S.laws_FnJubileesSummed.j6.eq _ _ _ _ _ _ _ _ _ _ _ _ _ _ _ _ _ _ _ _ _ _ _ _ _ _ _ _ _ _ _) ?_
      unfold laws_FnJubileesSummed.j6
      exact (LeO.ite' (fun h0 => LeO.refl _) (fun h0 => (LeO.ite' (fun h1 => (ih_l1 _ _ _ _ _ _ _ _ _ _ _ _ _ _ _ _ _ _ _ _ _ _ _ _ _ _ _ _ _ _ _ _ _)) (fun h1 => (ih_j7 _ _ _ _ _ _ _ _ _ _ _ _ _ _ _ _ _ _ _ _ _ _ _ _ _ _ _ _ _)))))
    · refine LeO.of (S.laws_FnJubileesSummed.l1.eq _ _ _ _ _ _ _ _ _ _ _ _ _ _ _ _ _ _ _ _ _ _ _ _ _ _ _ _ _ _ _ _ _) ?_
      unfold laws_FnJubileesSummed.l1
      exact (LeO.dec (fun h0 => (LeO.tst fun h1 => (LeO.tst fun h2 => (LeO.rdI h1 h2 (LeO.dec (fun h3 => (LeO.dec (fun h4 => (ih_l1 _ _ _ _ _ _ _ _ _ _ _ _ _ _ _ _ _ _ _ _ _ _ _ _ _ _ _ _ _ _ _ _ _)) (fun h4 => (ih_l1 _ _ _ _ _ _ _ _ _ _ _ _ _ _ _ _ _ _ _ _ _ _ _ _ _ _ _ _ _ _ _ _ _)))) (fun h3 => (ih_l1 _ _ _ _ _ _ _ _ _ _ _ _ _ _ _ _ _ _ _ _ _ _ _ _ _ _ _ _ _ _ _ _ _))))))) (fun h0 => (LeO.bne (fun h1 => (LeO.ite' (fun h2 => (LeO.ite' (fun h3 => LeO.refl _) (fun h3 => (ih_j7 _ _ _ _ _ _ _ _ _ _ _ _ _ _ _ _ _ _ _ _ _ _ _ _ _ _ _ _ _)))) (fun h2 => (LeO.ite' (fun h3 => LeO.refl _) (fun h3 => (ih_j7 _ _ _ _ _ _ _ _ _ _ _ _ _ _ _ _ _ _ _ _ _ _ _ _ _ _ _ _ _)))))) (fun h1 => LeO.refl _))))
    · refine LeO.of (S.laws_FnJubileesSummed.j7.eq _ _ _ _ _ _ _ _ _ _ _ _ _ _ _ _ _ _ _ _ _ _ _ _ _ _ _ _ _) ?_
      unfold laws_FnJubileesSummed.j7
      exact (LeO.ite' (fun h0 => (LeO.dec (fun h1 => (ih_j8 _ _ _ _ _ _ _ _ _ _ _ _ _ _ _ _ _ _ _ _ _ _ _ _ _ _ _ _)) (fun h1 => (LeO.ite (LeO.none _) (ih_j8 _ _ _ _ _ _ _ _ _ _ _ _ _ _ _ _ _ _ _ _ _ _ _ _ _ _ _ _))))) (fun h0 => (ih_j10 _ _ _ _ _ _ _ _ _ _ _ _ _ _ _ _ _ _ _ _ _ _ _ _ _)))
    · refine LeO.of (S.laws_FnJubileesSummed.j8.eq _ _ _ _ _ _ _ _ _ _ _ _ _ _ _ _ _ _ _ _ _ _ _ _ _ _ _ _) ?_
      unfold laws_FnJubileesSummed.j8
      exact (LeO.ite' (fun h0 => LeO.refl _) (fun h0 => (ih_l2 _ _ _ _ _ _ _ _ _ _ _ _ _ _ _ _ _ _ _ _ _ _ _ _ _ _ _ _ _)))
    · refine LeO.of (S.laws_FnJubileesSummed.l2.eq _ _ _ _ _ _ _ _ _ _ _ _ _ _ _ _ _ _ _ _ _ _ _ _ _ _ _ _ _) ?_
      unfold laws_FnJubileesSummed.l2
      exact (LeO.dec (fun h0 => (LeO.tst fun h1 => (LeO.tst fun h2 => (LeO.rdI h1 h2 (LeO.ite (LeO.none _) (LeO.bne (fun h3 => (ih_l2 _ _ _ _ _ _ _ _ _ _ _ _ _ _ _ _ _ _ _ _ _ _ _ _ _ _ _ _ _)) (fun h3 => LeO.refl _))))))) (fun h0 => (LeO.dec (fun h1 => (LeO.bind (impl_JubileesIn.f.br k _ _ _) (fun y7 => (ih_l3 _ _ _ _ _ _ _ _ _ _ _ _ _ _ _ _ _ _ _ _ _ _ _ _ _ _ _ _ _ _ _)))) (fun h1 => (ih_j10 _ _ _ _ _ _ _ _ _ _ _ _ _ _ _ _ _ _ _ _ _ _ _ _ _)))))
    · refine LeO.of (S.laws_FnJubileesSummed.l3.eq _ _ _ _ _ _ _ _ _ _ _ _ _ _ _ _ _ _ _ _ _ _ _ _ _ _ _ _ _ _ _) ?_
      unfold laws_FnJubileesSummed.l3
      exact (LeO.dec (fun h0 => (LeO.tst fun h1 => (LeO.tst fun h2 => (LeO.rdI h1 h2 (LeO.beq (fun h3 => (ih_l3 _ _ _ _ _ _ _ _ _ _ _ _ _ _ _ _ _ _ _ _ _ _ _ _ _ _ _ _ _ _ _)) (fun h3 => (ih_l3 _ _ _ _ _ _ _ _ _ _ _ _ _ _ _ _ _ _ _ _ _ _ _ _ _ _ _ _ _ _ _))))))) (fun h0 => (ih_j9 _ _ _ _ _ _ _ _ _ _ _ _ _ _ _ _ _ _ _ _ _ _ _ _ _ _ _ _)))
    · refine LeO.of (S.laws_FnJubileesSummed.j9.eq _ _ _ _ _ _ _ _ _ _ _ _ _ _ _ _ _ _ _ _ _ _ _ _ _ _ _ _) ?_
      unfold laws_FnJubileesSummed.j9
      exact (LeO.nob (fun h0 => (LeO.bne (fun h1 => (ih_j10 _ _ _ _ _ _ _ _ _ _ _ _ _ _ _ _ _ _ _ _ _ _ _ _ _)) (fun h1 => LeO.refl _))) (fun h0 => LeO.refl _))
    · refine LeO.of (S.laws_FnJubileesSummed.j10.eq _ _ _ _ _ _ _ _ _ _ _ _ _ _ _ _ _ _ _ _ _ _ _ _ _) ?_
      unfold laws_FnJubileesSummed.j10
      exact (LeO.ite' (fun h0 => (LeO.bind (impl_SumOfAges.f.br k _ _) (fun y1 => (LeO.nob (fun h1 => (ih_j11 _ _ _ _ _ _ _ _ _ _ _ _ _ _ _ _ _ _ _ _ _ _ _ _ _)) (fun h1 => (ih_j11 _ _ _ _ _ _ _ _ _ _ _ _ _ _ _ _ _ _ _ _ _ _ _ _ _)))))) (fun h0 => (ih_j12 _ _ _ _ _ _ _ _ _ _ _ _ _ _ _ _ _ _ _ _ _)))
    · refine LeO.of (S.laws_FnJubileesSummed.j11.eq _ _ _ _ _ _ _ _ _ _ _ _ _ _ _ _ _ _ _ _ _ _ _ _ _) ?_
      unfold laws_FnJubileesSummed.j11
      exact (LeO.ite' (fun h0 => LeO.refl _) (fun h0 => (LeO.dec (fun h1 => (LeO.bind (impl_SumOfAges.f.br k _ _) (fun y3 => (LeO.nob (fun h2 => (LeO.dec (fun h3 => LeO.refl _) (fun h3 => (ih_j12 _ _ _ _ _ _ _ _ _ _ _ _ _ _ _ _ _ _ _ _ _)))) (fun h2 => LeO.refl _))))) (fun h1 => (ih_j12 _ _ _ _ _ _ _ _ _ _ _ _ _ _ _ _ _ _ _ _ _)))))
    · refine LeO.of (S.laws_FnJubileesSummed.j12.eq _ _ _ _ _ _ _ _ _ _ _ _ _ _ _ _ _ _ _ _ _) ?_
      unfold laws_FnJubileesSummed.j12
      exact (LeO.ite' (fun h0 => (ih_l4 _ _ _ _ _ _ _ _ _ _ _ _ _ _ _ _ _ _ _ _ _)) (fun h0 => (ih_j14 _ _ _ _ _ _ _ _ _ _ _ _ _ _ _)))
    · refine LeO.of (S.laws_FnJubileesSummed.l4.eq _ _ _ _ _ _ _ _ _ _ _ _ _ _ _ _ _ _ _ _ _) ?_
      unfold laws_FnJubileesSummed.l4
      exact (LeO.dec (fun h0 => (LeO.bind (impl_JubileesIn.f.br k _ _ _) (fun y2 => (ih_j13 _ _ _ _ _ _ _ _ _ _ _ _ _ _ _ _ _ _ _ _ _ _ _)))) (fun h0 => (LeO.dec (fun h1 => LeO.refl _) (fun h1 => (LeO.dec (fun h2 => LeO.refl _) (fun h2 => (ih_j14 _ _ _ _ _ _ _ _ _ _ _ _ _ _ _)))))))
    · refine LeO.of (S.laws_FnJubileesSummed.j13.eq _ _ _ _ _ _ _ _ _ _ _ _ _ _ _ _ _ _ _ _ _ _ _) ?_
      unfold laws_FnJubileesSummed.j13
      exact (LeO.nob (fun h0 => (LeO.dec (fun h1 => LeO.refl _) (fun h1 => (LeO.beq (fun h2 => (LeO.dec (fun h3 => LeO.refl _) (fun h3 => (LeO.beq (fun h4 => (LeO.bne_t h2 (ih_l4 _ _ _ _ _ _ _ _ _ _ _ _ _ _ _ _ _ _ _ _ _))) (fun h4 => (ih_l4 _ _ _ _ _ _ _ _ _ _ _ _ _ _ _ _ _ _ _ _ _)))))) (fun h2 => (LeO.beq (fun h3 => (LeO.bne_f h2 (LeO.refl _))) (fun h3 => (ih_l4 _ _ _ _ _ _ _ _ _ _ _ _ _ _ _ _ _ _ _ _ _)))))))) (fun h0 => LeO.refl _))
    · refine LeO.of (S.laws_FnJubileesSummed.j14.eq _ _ _ _ _ _ _ _ _ _ _ _ _ _ _) ?_
      unfold laws_FnJubileesSummed.j14
      exact (LeO.ite' (fun h0 => (LeO.tst fun h1 => (LeO.tst fun h2 => (LeO.rdI h1 h2 (LeO.tst fun h3 => (LeO.tst fun h4 => (LeO.rdI h3 h4 (LeO.bne (fun h5 => (LeO.rdI h3 h4 (LeO.dec (fun h6 => (ih_j15 _ _ _ _ _ _ _ _ _ _ _)) (fun h6 => (LeO.rdI h1 h2 (ih_j15 _ _ _ _ _ _ _ _ _ _ _)))))) (fun h5 => (ih_j15 _ _ _ _ _ _ _ _ _ _ _)))))))))) (fun h0 => (ih_j15 _ _ _ _ _ _ _ _ _ _ _)))
    · refine LeO.of (S.laws_FnJubileesSummed.j15.eq _ _ _ _ _ _ _ _ _ _ _) ?_
      unfold laws_FnJubileesSummed.j15
      exact (LeO.ite' (fun h0 => LeO.refl _) (fun h0 => (LeO.ite' (fun h1 => (LeO.bne (fun h2 => (LeO.tst fun h4 => (LeO.tst fun h5 => (LeO.sub0 h4 h5 (LeO.bind (laws_qSame.f.br k _ _) (fun y11 => (LeO.nob (fun h6 => (LeO.subE h4 h5 (LeO.bind (laws_qSame.f.br k _ _) (fun y15 => (ih_j16 _ _ _ _ _ _ _))))) (fun h6 => (ih_j16 _ _ _ _ _ _ _))))))))) (fun h2 => (ih_j16 _ _ _ _ _ _ _)))) (fun h1 => (ih_j16 _ _ _ _ _ _ _)))))
    · refine LeO.of (S.laws_FnJubileesSummed.j16.eq _ _ _ _ _ _ _) ?_
      unfold laws_FnJubileesSummed.j16
      exact (LeO.ite' (fun h0 => LeO.refl _) (fun h0 => (LeO.ite' (fun h1 => (LeO.bind (impl_ParseBorn.f.br k _) (fun y1 => (LeO.nob (fun h2 => (LeO.bind (laws_qSame.f.br k _ _) (fun y4 => (ih_j17 _ _ _ _)))) (fun h2 => (ih_j17 _ _ _ _)))))) (fun h1 => (LeO.ite' (fun h2 => (LeO.bind (impl_BornText.f.br k _) (fun y6 => (LeO.ite' (fun h3 => LeO.refl _) (fun h3 => LeO.refl _))))) (fun h2 => LeO.refl _))))))
    · refine LeO.of (S.laws_FnJubileesSummed.j17.eq _ _ _ _) ?_
      unfold laws_FnJubileesSummed.j17
      exact (LeO.ite' (fun h0 => LeO.refl _) (fun h0 => (LeO.ite' (fun h1 => (LeO.bind (impl_BornText.f.br k _) (fun y1 => (LeO.ite' (fun h2 => LeO.refl _) (fun h2 => LeO.refl _))))) (fun h1 => LeO.refl _))))
theorem laws_FnJubileesSummed.f.br (k : Nat) (x0 : List Int) (x1 : List Int) : LeO (laws_FnJubileesSummed.f k x0 x1) (S.laws_FnJubileesSummed.f x0 x1) := by
  refine LeO.of (S.laws_FnJubileesSummed.f.eq _ _) ?_
  unfold laws_FnJubileesSummed.f
  have ih_j0 := (laws_FnJubileesSummed.br_l k).1
  exact (LeO.bind (laws_big.f.br _ _) (fun y1 => (LeO.ite' (fun h0 => LeO.refl _) (fun h0 => (LeO.bind (spec_DrawRoundSums.f.br k _) (fun y2 => (LeO.bind (impl_RoundSums.f.br k _ _ _ _) (fun y3 => (LeO.bind (spec_RoundSums.f.br k _ _ _ _) (fun y4 => (LeO.ite' (fun h1 => (ih_j0 _ _ _ _ _ _ _ _)) (fun h1 => (LeO.bind (laws_qSame.f.br k _ _) (fun y72 => (ih_j0 _ _ _ _ _ _ _ _)))))))))))))))
end
end Go.Proofs.YtpnkeknmgfdpdaaGreatDoorRR.X
