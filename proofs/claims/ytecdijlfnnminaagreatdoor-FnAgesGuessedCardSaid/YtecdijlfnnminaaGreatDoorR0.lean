/- What the functions of this seat come to, over plain values. No condition. -/
import Derived.Test.YtecdijlfnnminaaGreatDoorE3
import Derived.Test.YtecdijlfnnminaaGreatDoorK3
set_option linter.all false
namespace Go.Proofs.YtecdijlfnnminaaGreatDoor.Y
open Go Go.Proofs.YtecdijlfnnminaaGreatDoor.Eng Go.Proofs Go.Proofs.YtecdijlfnnminaaGreatDoor
set_option maxRecDepth 100000
set_option linter.unusedVariables false
noncomputable section
def laws_big.f (x0 : List Int) (x1 : List Int) : Option (Bool) := if (x0.length : Int) > 1048576 then (some true) else (some (decide ((x1.length : Int) > (IntKind.i64.wrap (1048576 - (x0.length : Int))))))
theorem laws_big.f.br (x0 : List Int) (x1 : List Int) : LeO (laws_big.f x0 x1) (S.laws_big.f x0 x1) := by
 refine LeO.of (S.laws_big.f.eq _ _) ?_
 unfold laws_big.f
 exact (LeO.dec (fun h0 => LeO.refl _) (fun h0 => LeO.refl _))
def spec_l1Cur_next.f (x0_0 : List Int) (x0_1 : Int) (x0_2 : Int) : Option (Int × (List Int) × Int × Int) := if x0_1 < (x0_0.length : Int) then (if 0 ≤ x0_1 then (if (IntKind.i64.wrap (x0_1 + 1)) ≤ (x0_0.length : Int) then (some ((IntKind.i64.wrap (rde x0_0 x0_1)), x0_0, (IntKind.i64.wrap (x0_1 + 1)), (IntKind.u64.wrap ((IntKind.u64.wrap ((IntKind.u64.wrap (x0_2 * 6364136223846793005)) + (IntKind.u64.wrap (IntKind.i64.wrap (rde x0_0 x0_1))))) + 1442695040888963407)))) else (some ((IntKind.i64.wrap (bitI .and .u64 (shrI .u64 (IntKind.u64.wrap ((IntKind.u64.wrap ((IntKind.u64.wrap (x0_2 * 6364136223846793005)) + (IntKind.u64.wrap (IntKind.i64.wrap (rde x0_0 x0_1))))) + 1442695040888963407)) 40) 255)), x0_0, (IntKind.i64.wrap (x0_1 + 1)), (IntKind.u64.wrap ((IntKind.u64.wrap ((IntKind.u64.wrap (x0_2 * 6364136223846793005)) + (IntKind.u64.wrap (IntKind.i64.wrap (rde x0_0 x0_1))))) + 1442695040888963407))))) else (none)) else (if (IntKind.i64.wrap (x0_1 + 1)) ≤ (x0_0.length : Int) then (some (0, x0_0, (IntKind.i64.wrap (x0_1 + 1)), (IntKind.u64.wrap ((IntKind.u64.wrap ((IntKind.u64.wrap (x0_2 * 6364136223846793005)) + (IntKind.u64.wrap 0))) + 1442695040888963407)))) else (some ((IntKind.i64.wrap (bitI .and .u64 (shrI .u64 (IntKind.u64.wrap ((IntKind.u64.wrap ((IntKind.u64.wrap (x0_2 * 6364136223846793005)) + (IntKind.u64.wrap 0))) + 1442695040888963407)) 40) 255)), x0_0, (IntKind.i64.wrap (x0_1 + 1)), (IntKind.u64.wrap ((IntKind.u64.wrap ((IntKind.u64.wrap (x0_2 * 6364136223846793005)) + (IntKind.u64.wrap 0))) + 1442695040888963407)))))
theorem spec_l1Cur_next.f.br (x0_0 : List Int) (x0_1 : Int) (x0_2 : Int) : LeO (spec_l1Cur_next.f x0_0 x0_1 x0_2) (S.spec_l1Cur_next.f x0_0 x0_1 x0_2) := by
 refine LeO.of (S.spec_l1Cur_next.f.eq _ _ _) ?_
 unfold spec_l1Cur_next.f
 exact (LeO.dec (fun h0 => (LeO.tst fun h1 => (LeO.rdI h1 h0 (LeO.dec (fun h2 => LeO.refl _) (fun h2 => LeO.refl _))))) (fun h0 => (LeO.dec (fun h1 => LeO.refl _) (fun h1 => LeO.refl _))))
def spec_l1Cur_pick.f (x0_0 : List Int) (x0_1 : Int) (x0_2 : Int) (x1 : Int) : Option (Int × (List Int) × Int × Int) := if x1 ≤ 1 then (some (0, x0_0, x0_1, x0_2)) else ((spec_l1Cur_next.f x0_0 x0_1 x0_2).bind fun y2 => (if x1 > 200 then ((spec_l1Cur_next.f y2.2.1 y2.2.2.1 y2.2.2.2).bind fun y5 => (if x1 = 0 then (none) else (some (((IntKind.i64.wrap ((IntKind.i64.wrap (y2.1 * 256)) + y5.1)).tmod x1), y5.2.1, y5.2.2.1, y5.2.2.2)))) else (if x1 = 0 then (none) else (some ((y2.1.tmod x1), y2.2.1, y2.2.2.1, y2.2.2.2)))))
theorem spec_l1Cur_pick.f.br (x0_0 : List Int) (x0_1 : Int) (x0_2 : Int) (x1 : Int) : LeO (spec_l1Cur_pick.f x0_0 x0_1 x0_2 x1) (S.spec_l1Cur_pick.f x0_0 x0_1 x0_2 x1) := by
 refine LeO.of (S.spec_l1Cur_pick.f.eq _ _ _ _) ?_
 unfold spec_l1Cur_pick.f
 exact (LeO.dec (fun h0 => LeO.refl _) (fun h0 => (LeO.bind (spec_l1Cur_next.f.br _ _ _) (fun y2 => (LeO.dec (fun h1 => (LeO.bind (spec_l1Cur_next.f.br _ _ _) (fun y5 => (LeO.ite (LeO.none _) (LeO.refl _))))) (fun h1 => (LeO.ite (LeO.none _) (LeO.refl _))))))))
def spec_l1Cur_one.f (x0_0 : List Int) (x0_1 : Int) (x0_2 : Int) (x1 : Int) : Option (Bool × (List Int) × Int × Int) := (spec_l1Cur_pick.f x0_0 x0_1 x0_2 x1).bind fun y1 => (some ((y1.1 == 0), y1.2.1, y1.2.2.1, y1.2.2.2))
theorem spec_l1Cur_one.f.br (x0_0 : List Int) (x0_1 : Int) (x0_2 : Int) (x1 : Int) : LeO (spec_l1Cur_one.f x0_0 x0_1 x0_2 x1) (S.spec_l1Cur_one.f x0_0 x0_1 x0_2 x1) := by
 refine LeO.of (S.spec_l1Cur_one.f.eq _ _ _ _) ?_
 unfold spec_l1Cur_one.f
 exact (LeO.bind (spec_l1Cur_pick.f.br _ _ _ _) (fun y1 => LeO.refl _))
def spec_l1Cur_hidden.f (x0_0 : List Int) (x0_1 : Int) (x0_2 : Int) : Option ((List Int) × (List Int) × Int × Int) := (spec_l1Cur_pick.f x0_0 x0_1 x0_2 12).bind fun y1 => ((spec_l1Cur_pick.f y1.2.1 y1.2.2.1 y1.2.2.2 12).bind fun y3 => ((spec_l1Cur_one.f y3.2.1 y3.2.2.1 y3.2.2.2 3).bind fun y5 => (if y5.1 = true then ((spec_l1Cur_pick.f y5.2.1 y5.2.2.1 y5.2.2.2 12).bind fun y6 => (if [(IntKind.i64.wrap (1 + y1.1)), (IntKind.i64.wrap (1 + y3.1))].length < 17592186044416 then (some (([(IntKind.i64.wrap (1 + y1.1)), (IntKind.i64.wrap (1 + y3.1))] ++ [(IntKind.i64.wrap (1 + y6.1))]), y6.2.1, y6.2.2.1, y6.2.2.2)) else (none))) else (some ([(IntKind.i64.wrap (1 + y1.1)), (IntKind.i64.wrap (1 + y3.1))], y5.2.1, y5.2.2.1, y5.2.2.2)))))
theorem spec_l1Cur_hidden.f.br (x0_0 : List Int) (x0_1 : Int) (x0_2 : Int) : LeO (spec_l1Cur_hidden.f x0_0 x0_1 x0_2) (S.spec_l1Cur_hidden.f x0_0 x0_1 x0_2) := by
 refine LeO.of (S.spec_l1Cur_hidden.f.eq _ _ _) ?_
 unfold spec_l1Cur_hidden.f
 exact (LeO.bind (spec_l1Cur_pick.f.br _ _ _ _) (fun y1 => (LeO.bind (spec_l1Cur_pick.f.br _ _ _ _) (fun y3 => (LeO.bind (spec_l1Cur_one.f.br _ _ _ _) (fun y5 => (LeO.ite' (fun h0 => (LeO.bind (spec_l1Cur_pick.f.br _ _ _ _) (fun y6 => (LeO.tst fun h1 => (LeO.cat1 h1 (LeO.refl _)))))) (fun h0 => LeO.refl _))))))))
def spec_l1In.f (x0 : Int) (x1 : Int) (x2 : Int) : Option (Bool) := if x0 ≥ x1 then (some (decide (x0 ≤ x2))) else (some false)
theorem spec_l1In.f.br (x0 : Int) (x1 : Int) (x2 : Int) : LeO (spec_l1In.f x0 x1 x2) (S.spec_l1In.f x0 x1 x2) := by
 refine LeO.of (S.spec_l1In.f.eq _ _ _) ?_
 unfold spec_l1In.f
 exact (LeO.dec (fun h0 => LeO.refl _) (fun h0 => LeO.refl _))
def spec_pzPeople.f (x0 : Int) : Option (Bool) := (spec_l1In.f x0 2 3).bind fun y1 => (some y1)
theorem spec_pzPeople.f.br (x0 : Int) : LeO (spec_pzPeople.f x0) (S.spec_pzPeople.f x0) := by
 refine LeO.of (S.spec_pzPeople.f.eq _) ?_
 unfold spec_pzPeople.f
 exact (LeO.bind (spec_l1In.f.br _ _ _) (fun y1 => LeO.refl _))
def spec_l1All.l0 : Nat → Int → Int → List Int → Int → Int → Option (Bool)
 | 0, _, _, _, _, _ => none
 | k + 1, x1, x2, x9, x10, x11 => if x11 < x10 then (if 0 ≤ x11 then (if x11 < (x9.length : Int) then ((spec_l1In.f (rde x9 x11) x1 x2).bind fun y3 => (if y3 = true then (spec_l1All.l0 k x1 x2 x9 x10 (IntKind.i64.wrap (x11 + 1))) else (some false))) else (none)) else (none)) else (some true)
def spec_l1All.f (k : Nat) (x0 : List Int) (x1 : Int) (x2 : Int) : Option (Bool) := spec_l1All.l0 k x1 x2 x0 (x0.length : Int) 0
theorem spec_l1All.br_l : ∀ k, (∀ (x1 : Int) (x2 : Int) (x9 : List Int) (x10 : Int) (x11 : Int), LeO (spec_l1All.l0 k x1 x2 x9 x10 x11) (S.spec_l1All.l0 x1 x2 x9 x10 x11))
 | 0 => fun _ _ _ _ _ => LeO.none _
 | k + 1 => by
  have ih := spec_l1All.br_l k
  have ih_l0 := ih
  refine fun x1 x2 x9 x10 x11 => ?_
  ·refine LeO.of (S.spec_l1All.l0.eq _ _ _ _ _) ?_
   show LeO (spec_l1All.l0 (k + 1) x1 x2 x9 x10 x11) _
   unfold spec_l1All.l0
   exact (LeO.dec (fun h0 => (LeO.tst fun h1 => (LeO.tst fun h2 => (LeO.rdI h1 h2 (LeO.bind (spec_l1In.f.br _ _ _) (fun y3 => (LeO.nob (fun h3 => (ih_l0 _ _ _ _ _)) (fun h3 => LeO.refl _)))))))) (fun h0 => LeO.refl _))
theorem spec_l1All.f.br (k : Nat) (x0 : List Int) (x1 : Int) (x2 : Int) : LeO (spec_l1All.f k x0 x1 x2) (S.spec_l1All.f x0 x1 x2) := by
 refine LeO.of (S.spec_l1All.f.eq _ _ _) ?_
 unfold spec_l1All.f
 have ih_l0 := (spec_l1All.br_l k)
 exact (ih_l0 _ _ _ _ _)
def spec_pzHidden.f (k : Nat) (x0 : List Int) : Option (Bool) := (spec_pzPeople.f (x0.length : Int)).bind fun y2 => (if y2 = true then ((spec_l1All.f k x0 1 12).bind fun y3 => (some y3)) else (some false))
theorem spec_pzHidden.f.br (k : Nat) (x0 : List Int) : LeO (spec_pzHidden.f k x0) (S.spec_pzHidden.f x0) := by
 refine LeO.of (S.spec_pzHidden.f.eq _) ?_
 unfold spec_pzHidden.f
 exact (LeO.bind (spec_pzPeople.f.br _) (fun y2 => (LeO.ite' (fun h0 => (LeO.bind (spec_l1All.f.br k _ _ _) (fun y3 => LeO.refl _))) (fun h0 => LeO.refl _))))
def spec_pzNext.f (x0 : Int) : Option (Int) := some ((IntKind.i64.wrap ((IntKind.i64.wrap (299 * x0)) + 811)).tmod 10007)
theorem spec_pzNext.f.br (x0 : Int) : LeO (spec_pzNext.f x0) (S.spec_pzNext.f x0) := by
 refine LeO.of (S.spec_pzNext.f.eq _) ?_
 unfold spec_pzNext.f
 exact LeO.refl _
def spec_agSum.l0 : Nat → Int → List Int → Int → Int → Option (Int)
 | 0, _, _, _, _ => none
 | k + 1, x3, x6, x7, x8 => if x8 < x7 then (if 0 ≤ x8 then (if x8 < (x6.length : Int) then (spec_agSum.l0 k (IntKind.i64.wrap (x3 + (rde x6 x8))) x6 x7 (IntKind.i64.wrap (x8 + 1))) else (none)) else (none)) else (some x3)
def spec_agSum.f (k : Nat) (x0 : List Int) : Option (Int) := spec_agSum.l0 k 0 x0 (x0.length : Int) 0
theorem spec_agSum.br_l : ∀ k, (∀ (x3 : Int) (x6 : List Int) (x7 : Int) (x8 : Int), LeO (spec_agSum.l0 k x3 x6 x7 x8) (S.spec_agSum.l0 x3 x6 x7 x8))
 | 0 => fun _ _ _ _ => LeO.none _
 | k + 1 => by
  have ih := spec_agSum.br_l k
  have ih_l0 := ih
  refine fun x3 x6 x7 x8 => ?_
  ·refine LeO.of (S.spec_agSum.l0.eq _ _ _ _) ?_
   show LeO (spec_agSum.l0 (k + 1) x3 x6 x7 x8) _
   unfold spec_agSum.l0
   exact (LeO.dec (fun h0 => (LeO.tst fun h1 => (LeO.tst fun h2 => (LeO.rdI h1 h2 (ih_l0 _ _ _ _))))) (fun h0 => LeO.refl _))
theorem spec_agSum.f.br (k : Nat) (x0 : List Int) : LeO (spec_agSum.f k x0) (S.spec_agSum.f x0) := by
 refine LeO.of (S.spec_agSum.f.eq _) ?_
 unfold spec_agSum.f
 have ih_l0 := (spec_agSum.br_l k)
 exact (ih_l0 _ _ _ _)
def spec_kiPrime.l0 : Nat → Int → Int → Option (Bool)
 | 0, _, _ => none
 | k + 1, x0, x3 => if (IntKind.i64.wrap (x3 * x3)) ≤ x0 then (if x3 = 0 then (none) else (if (x0.tmod x3) = 0 then (some false) else (spec_kiPrime.l0 k x0 (IntKind.i64.wrap (x3 + 1))))) else (some (decide (x0 > 1)))
def spec_kiPrime.f (k : Nat) (x0 : Int) : Option (Bool) := spec_kiPrime.l0 k x0 2
theorem spec_kiPrime.br_l : ∀ k, (∀ (x0 : Int) (x3 : Int), LeO (spec_kiPrime.l0 k x0 x3) (S.spec_kiPrime.l0 x0 x3))
 | 0 => fun _ _ => LeO.none _
 | k + 1 => by
  have ih := spec_kiPrime.br_l k
  have ih_l0 := ih
  refine fun x0 x3 => ?_
  ·refine LeO.of (S.spec_kiPrime.l0.eq _ _) ?_
   show LeO (spec_kiPrime.l0 (k + 1) x0 x3) _
   unfold spec_kiPrime.l0
   exact (LeO.dec (fun h0 => (LeO.ite (LeO.none _) (LeO.beq (fun h1 => LeO.refl _) (fun h1 => (ih_l0 _ _))))) (fun h0 => LeO.refl _))
theorem spec_kiPrime.f.br (k : Nat) (x0 : Int) : LeO (spec_kiPrime.f k x0) (S.spec_kiPrime.f x0) := by
 refine LeO.of (S.spec_kiPrime.f.eq _) ?_
 unfold spec_kiPrime.f
 have ih_l0 := (spec_kiPrime.br_l k)
 exact (ih_l0 _ _)
mutual
def spec_kiIs.l0 : Nat → Int → Int → Int → Option (Bool)
 | 0, _, _, _ => none
 | k + 1, x0, x5, x6 => if x6 > 0 then (if (x6.tmod 10) = x5 then (spec_kiIs.l0 k x0 x5 (IntKind.i64.wrap (x6.tdiv 10))) else (some false)) else (some (decide (x0 > 10)))
def spec_kiIs.l1 : Nat → Int → List UInt8 → Int → Int → Option (Bool)
 | 0, _, _, _, _ => none
 | k + 1, x0, x1, x7, x8 => if x7 ≤ x0 then (if x1 = [115] then (if (IntKind.i64.wrap (x8 * x8)) = x0 then (some true) else (spec_kiIs.l1 k x0 x1 (IntKind.i64.wrap (x8 * x8)) (IntKind.i64.wrap (x8 + 1)))) else (if x1 = [99] then (if (IntKind.i64.wrap ((IntKind.i64.wrap (x8 * x8)) * x8)) = x0 then (some true) else (spec_kiIs.l1 k x0 x1 (IntKind.i64.wrap ((IntKind.i64.wrap (x8 * x8)) * x8)) (IntKind.i64.wrap (x8 + 1)))) else (if (IntKind.i64.wrap (x7 + x8)) = x0 then (some true) else (spec_kiIs.l1 k x0 x1 (IntKind.i64.wrap (x7 + x8)) (IntKind.i64.wrap (x8 + 1)))))) else (some false)
end
def spec_kiIs.f (k : Nat) (x0 : Int) (x1 : List UInt8) : Option (Bool) := if x1 = [112] then ((spec_kiPrime.f k x0).bind fun y2 => (some y2)) else (if x1 = [100] then (spec_kiIs.l0 k x0 (x0.tmod 10) x0) else (if x1 = [114] then (if x0 ≥ 10 then (some ((x0.tmod 10) == 0)) else (some false)) else (spec_kiIs.l1 k x0 x1 0 0)))
theorem spec_kiIs.br_l : ∀ k, (∀ (x0 : Int) (x5 : Int) (x6 : Int), LeO (spec_kiIs.l0 k x0 x5 x6) (S.spec_kiIs.l0 x0 x5 x6)) ∧ (∀ (x0 : Int) (x1 : List UInt8) (x7 : Int) (x8 : Int), LeO (spec_kiIs.l1 k x0 x1 x7 x8) (S.spec_kiIs.l1 x0 x1 x7 x8))
 | 0 => ⟨fun _ _ _ => LeO.none _, fun _ _ _ _ => LeO.none _⟩
 | k + 1 => by
  have ih := spec_kiIs.br_l k
  obtain ⟨ih_l0, ih_l1⟩ := ih
  refine ⟨fun x0 x5 x6 => ?_, fun x0 x1 x7 x8 => ?_⟩
  ·refine LeO.of (S.spec_kiIs.l0.eq _ _ _) ?_
   unfold spec_kiIs.l0
   exact (LeO.dec (fun h0 => (LeO.bne (fun h1 => (ih_l0 _ _ _)) (fun h1 => LeO.refl _))) (fun h0 => LeO.refl _))
  ·refine LeO.of (S.spec_kiIs.l1.eq _ _ _ _) ?_
   unfold spec_kiIs.l1
   exact (LeO.dec (fun h0 => (LeO.beq (fun h1 => (LeO.beq (fun h2 => LeO.refl _) (fun h2 => (ih_l1 _ _ _ _)))) (fun h1 => (LeO.beq (fun h2 => (LeO.beq (fun h3 => LeO.refl _) (fun h3 => (ih_l1 _ _ _ _)))) (fun h2 => (LeO.beq (fun h3 => LeO.refl _) (fun h3 => (ih_l1 _ _ _ _)))))))) (fun h0 => LeO.refl _))
theorem spec_kiIs.f.br (k : Nat) (x0 : Int) (x1 : List UInt8) : LeO (spec_kiIs.f k x0 x1) (S.spec_kiIs.f x0 x1) := by
 refine LeO.of (S.spec_kiIs.f.eq _ _) ?_
 unfold spec_kiIs.f
 have ih_l0 := (spec_kiIs.br_l k).1
 have ih_l1 := (spec_kiIs.br_l k).2
 exact (LeO.beq (fun h0 => (LeO.bind (spec_kiPrime.f.br k _) (fun y2 => LeO.refl _))) (fun h0 => (LeO.beq (fun h1 => (ih_l0 _ _ _)) (fun h1 => (LeO.beq (fun h2 => (LeO.dec (fun h3 => LeO.refl _) (fun h3 => LeO.refl _))) (fun h2 => (ih_l1 _ _ _ _)))))))
def spec_kiCount.l0 : Nat → Int → List UInt8 → Int → List Int → Int → Int → Option (Int)
 | 0, _, _, _, _, _, _ => none
 | k + 1, x1, x2, x7, x10, x11, x12 => if x12 < x11 then (if 0 ≤ x12 then (if x12 < (x10.length : Int) then ((spec_kiIs.f k (IntKind.i64.wrap ((rde x10 x12) + x1)) x2).bind fun y4 => (if y4 = true then (spec_kiCount.l0 k x1 x2 (IntKind.i64.wrap (x7 + 1)) x10 x11 (IntKind.i64.wrap (x12 + 1))) else (spec_kiCount.l0 k x1 x2 x7 x10 x11 (IntKind.i64.wrap (x12 + 1))))) else (none)) else (none)) else (some x7)
def spec_kiCount.f (k : Nat) (x0 : List Int) (x1 : Int) (x2 : List UInt8) : Option (Int) := spec_kiCount.l0 k x1 x2 0 x0 (x0.length : Int) 0
theorem spec_kiCount.br_l : ∀ k, (∀ (x1 : Int) (x2 : List UInt8) (x7 : Int) (x10 : List Int) (x11 : Int) (x12 : Int), LeO (spec_kiCount.l0 k x1 x2 x7 x10 x11 x12) (S.spec_kiCount.l0 x1 x2 x7 x10 x11 x12))
 | 0 => fun _ _ _ _ _ _ => LeO.none _
 | k + 1 => by
  have ih := spec_kiCount.br_l k
  have ih_l0 := ih
  refine fun x1 x2 x7 x10 x11 x12 => ?_
  ·refine LeO.of (S.spec_kiCount.l0.eq _ _ _ _ _ _) ?_
   show LeO (spec_kiCount.l0 (k + 1) x1 x2 x7 x10 x11 x12) _
   unfold spec_kiCount.l0
   exact (LeO.dec (fun h0 => (LeO.tst fun h1 => (LeO.tst fun h2 => (LeO.rdI h1 h2 (LeO.bind (spec_kiIs.f.br k _ _) (fun y4 => (LeO.ite' (fun h3 => (ih_l0 _ _ _ _ _ _)) (fun h3 => (ih_l0 _ _ _ _ _ _))))))))) (fun h0 => LeO.refl _))
theorem spec_kiCount.f.br (k : Nat) (x0 : List Int) (x1 : Int) (x2 : List UInt8) : LeO (spec_kiCount.f k x0 x1 x2) (S.spec_kiCount.f x0 x1 x2) := by
 refine LeO.of (S.spec_kiCount.f.eq _ _ _) ?_
 unfold spec_kiCount.f
 have ih_l0 := (spec_kiCount.br_l k)
 exact (ih_l0 _ _ _ _ _ _)
def spec_pzValue.l0 : Nat → Int → List Int → Int → Int → Option (Int)
 | 0, _, _, _, _ => none
 | k + 1, x7, x37, x38, x39 => if x39 < x38 then (if 0 ≤ x39 then (if x39 < (x37.length : Int) then (spec_pzValue.l0 k (IntKind.i64.wrap (x7 * (rde x37 x39))) x37 x38 (IntKind.i64.wrap (x39 + 1))) else (none)) else (none)) else (some x7)
def spec_pzValue.f (k : Nat) (x0 : Int) (x1 : Int) (x2 : List Int) : Option (Int) := if x0 = 0 then ((spec_agSum.f k x2).bind fun y1 => (some y1)) else (if x0 = 1 then (if 0 ≤ x1 then (if x1 < (x2.length : Int) then (some (rde x2 x1)) else (none)) else (none)) else (if x0 = 2 then (spec_pzValue.l0 k 1 x2 (x2.length : Int) 0) else (if x0 = 3 then (if 0 ≤ x1 then (if x1 < (x2.length : Int) then (if (x2.length : Int) = 0 then (none) else (if 0 ≤ ((IntKind.i64.wrap (x1 + 1)).tmod (x2.length : Int)) then (if ((IntKind.i64.wrap (x1 + 1)).tmod (x2.length : Int)) < (x2.length : Int) then (if (rde x2 x1) > (rde x2 ((IntKind.i64.wrap (x1 + 1)).tmod (x2.length : Int))) then (some 1) else (some 0)) else (none)) else (none))) else (none)) else (none)) else (if x0 = 4 then ((spec_kiCount.f k x2 0 [112]).bind fun y11 => (some y11)) else (if 0 ≤ x1 then (if x1 < (x2.length : Int) then (if (x2.length : Int) = 0 then (none) else (if 0 ≤ ((IntKind.i64.wrap (x1 + 1)).tmod (x2.length : Int)) then (if ((IntKind.i64.wrap (x1 + 1)).tmod (x2.length : Int)) < (x2.length : Int) then (if (rde x2 ((IntKind.i64.wrap (x1 + 1)).tmod (x2.length : Int))) = 0 then (none) else (if ((rde x2 x1).tmod (rde x2 ((IntKind.i64.wrap (x1 + 1)).tmod (x2.length : Int)))) = 0 then (some 1) else (some 0))) else (none)) else (none))) else (none)) else (none))))))
theorem spec_pzValue.br_l : ∀ k, (∀ (x7 : Int) (x37 : List Int) (x38 : Int) (x39 : Int), LeO (spec_pzValue.l0 k x7 x37 x38 x39) (S.spec_pzValue.l0 x7 x37 x38 x39))
 | 0 => fun _ _ _ _ => LeO.none _
 | k + 1 => by
  have ih := spec_pzValue.br_l k
  have ih_l0 := ih
  refine fun x7 x37 x38 x39 => ?_
  ·refine LeO.of (S.spec_pzValue.l0.eq _ _ _ _) ?_
   show LeO (spec_pzValue.l0 (k + 1) x7 x37 x38 x39) _
   unfold spec_pzValue.l0
   exact (LeO.dec (fun h0 => (LeO.tst fun h1 => (LeO.tst fun h2 => (LeO.rdI h1 h2 (ih_l0 _ _ _ _))))) (fun h0 => LeO.refl _))
theorem spec_pzValue.f.br (k : Nat) (x0 : Int) (x1 : Int) (x2 : List Int) : LeO (spec_pzValue.f k x0 x1 x2) (S.spec_pzValue.f x0 x1 x2) := by
 refine LeO.of (S.spec_pzValue.f.eq _ _ _) ?_
 unfold spec_pzValue.f
 have ih_l0 := (spec_pzValue.br_l k)
 exact (LeO.beq (fun h0 => (LeO.bind (spec_agSum.f.br k _) (fun y1 => LeO.refl _))) (fun h0 => (LeO.beq (fun h1 => (LeO.tst fun h2 => (LeO.tst fun h3 => (LeO.rdI h2 h3 (LeO.refl _))))) (fun h1 => (LeO.beq (fun h2 => (ih_l0 _ _ _ _)) (fun h2 => (LeO.beq (fun h3 => (LeO.tst fun h4 => (LeO.tst fun h5 => (LeO.rdI h4 h5 (LeO.ite (LeO.none _) (LeO.tst fun h6 => (LeO.tst fun h7 => (LeO.rdI h6 h7 (LeO.dec (fun h8 => LeO.refl _) (fun h8 => LeO.refl _)))))))))) (fun h3 => (LeO.beq (fun h4 => (LeO.bind (spec_kiCount.f.br k _ _ _) (fun y11 => LeO.refl _))) (fun h4 => (LeO.tst fun h5 => (LeO.tst fun h6 => (LeO.rdI h5 h6 (LeO.ite (LeO.none _) (LeO.tst fun h7 => (LeO.tst fun h8 => (LeO.rdI h7 h8 (LeO.ite (LeO.none _) (LeO.beq (fun h9 => LeO.refl _) (fun h9 => LeO.refl _))))))))))))))))))))
def spec_pzOf.f (k : Nat) (x0 : Int) (x1 : Int) (x2 : List Int) : Option (Int × Int × Int) := if x0 = 1 then (if (x2.length : Int) = 0 then (none) else ((spec_pzValue.f k x0 (x1.tmod (x2.length : Int)) x2).bind fun y3 => (some (x0, (x1.tmod (x2.length : Int)), y3)))) else (if x0 = 3 then (if (x2.length : Int) = 0 then (none) else ((spec_pzValue.f k x0 (x1.tmod (x2.length : Int)) x2).bind fun y7 => (some (x0, (x1.tmod (x2.length : Int)), y7)))) else (if x0 = 5 then (if (x2.length : Int) = 0 then (none) else ((spec_pzValue.f k x0 (x1.tmod (x2.length : Int)) x2).bind fun y11 => (some (x0, (x1.tmod (x2.length : Int)), y11)))) else ((spec_pzValue.f k x0 0 x2).bind fun y12 => (some (x0, 0, y12)))))
theorem spec_pzOf.f.br (k : Nat) (x0 : Int) (x1 : Int) (x2 : List Int) : LeO (spec_pzOf.f k x0 x1 x2) (S.spec_pzOf.f x0 x1 x2) := by
 refine LeO.of (S.spec_pzOf.f.eq _ _ _) ?_
 unfold spec_pzOf.f
 exact (LeO.beq (fun h0 => (LeO.beq_t h0 (LeO.ite (LeO.none _) (LeO.bind (spec_pzValue.f.br k _ _ _) (fun y3 => LeO.refl _))))) (fun h0 => (LeO.beq (fun h1 => (LeO.beq_t h1 (LeO.ite (LeO.none _) (LeO.bind (spec_pzValue.f.br k _ _ _) (fun y7 => LeO.refl _))))) (fun h1 => (LeO.beq (fun h2 => (LeO.ite (LeO.none _) (LeO.bind (spec_pzValue.f.br k _ _ _) (fun y11 => LeO.refl _)))) (fun h2 => (LeO.bind (spec_pzValue.f.br k _ _ _) (fun y12 => LeO.refl _))))))))
mutual
def spec_MakePuzzle.j0 : Nat → List Int → Int → Int → Bool → Int → (List (Int × Int × Int)) → Option ((Int × (List (Int × Int × Int))) × Bool)
 | 0, _, _, _, _, _, _ => none
 | k + 1, x0, x1, x2, x23, xb6_0, xb6_1 => if x23 = true then (some ((0, []), false)) else (spec_MakePuzzle.l0 k x0 x1 x2 xb6_0 xb6_1 (x0.length : Int) [])
def spec_MakePuzzle.l0 : Nat → List Int → Int → Int → Int → (List (Int × Int × Int)) → Int → (List (Int × Int × Int)) → Option ((Int × (List (Int × Int × Int))) × Bool)
 | 0, _, _, _, _, _, _, _ => none
 | k + 1, x0, x1, x9, xb6_0, xb6_1, xb8_0, xb8_1 => if x1 > 0 then ((spec_pzNext.f x9).bind fun y2 => ((spec_pzNext.f y2).bind fun y4 => ((spec_pzOf.f k (y2.tmod 6) y4 x0).bind fun y5 => (if xb8_1.length < 5864062014805 then (spec_MakePuzzle.l0 k x0 (IntKind.i64.wrap (x1 - 1)) y4 xb6_0 xb6_1 xb8_0 (xb8_1 ++ [y5])) else (none))))) else (some ((xb8_0, xb8_1), true))
end
def spec_MakePuzzle.f (k : Nat) (x0 : List Int) (x1 : Int) (x2 : Int) : Option ((Int × (List (Int × Int × Int))) × Bool) := (spec_pzHidden.f k x0).bind fun y1 => (if y1 = true then ((spec_l1In.f x1 0 6).bind fun y8 => (if y8 = true then ((spec_l1In.f x2 0 9999).bind fun y10 => (spec_MakePuzzle.j0 k x0 x1 x2 (!y10) 0 [])) else (spec_MakePuzzle.j0 k x0 x1 x2 true 0 []))) else (spec_MakePuzzle.j0 k x0 x1 x2 true 0 []))
theorem spec_MakePuzzle.br_l : ∀ k, (∀ (x0 : List Int) (x1 : Int) (x2 : Int) (x23 : Bool) (xb6_0 : Int) (xb6_1 : List (Int × Int × Int)), LeO (spec_MakePuzzle.j0 k x0 x1 x2 x23 xb6_0 xb6_1) (S.spec_MakePuzzle.j0 x0 x1 x2 x23 xb6_0 xb6_1)) ∧ (∀ (x0 : List Int) (x1 : Int) (x9 : Int) (xb6_0 : Int) (xb6_1 : List (Int × Int × Int)) (xb8_0 : Int) (xb8_1 : List (Int × Int × Int)), LeO (spec_MakePuzzle.l0 k x0 x1 x9 xb6_0 xb6_1 xb8_0 xb8_1) (S.spec_MakePuzzle.l0 x0 x1 x9 xb6_0 xb6_1 xb8_0 xb8_1))
 | 0 => ⟨fun _ _ _ _ _ _ => LeO.none _, fun _ _ _ _ _ _ _ => LeO.none _⟩
 | k + 1 => by
  have ih := spec_MakePuzzle.br_l k
  obtain ⟨ih_j0, ih_l0⟩ := ih
  refine ⟨fun x0 x1 x2 x23 xb6_0 xb6_1 => ?_, fun x0 x1 x9 xb6_0 xb6_1 xb8_0 xb8_1 => ?_⟩
  ·refine LeO.of (S.spec_MakePuzzle.j0.eq _ _ _ _ _ _) ?_
   unfold spec_MakePuzzle.j0
   exact (LeO.ite' (fun h0 => LeO.refl _) (fun h0 => (ih_l0 _ _ _ _ _ _ _)))
  ·refine LeO.of (S.spec_MakePuzzle.l0.eq _ _ _ _ _ _ _) ?_
   unfold spec_MakePuzzle.l0
   exact (LeO.dec (fun h0 => (LeO.bind (spec_pzNext.f.br _) (fun y2 => (LeO.bind (spec_pzNext.f.br _) (fun y4 => (LeO.bind (spec_pzOf.f.br k _ _ _) (fun y5 => (LeO.tst fun h1 => (LeO.cat1 h1 (ih_l0 _ _ _ _ _ _ _)))))))))) (fun h0 => LeO.refl _))
theorem spec_MakePuzzle.f.br (k : Nat) (x0 : List Int) (x1 : Int) (x2 : Int) : LeO (spec_MakePuzzle.f k x0 x1 x2) (S.spec_MakePuzzle.f x0 x1 x2) := by
 refine LeO.of (S.spec_MakePuzzle.f.eq _ _ _) ?_
 unfold spec_MakePuzzle.f
 have ih_j0 := (spec_MakePuzzle.br_l k).1
 exact (LeO.bind (spec_pzHidden.f.br k _) (fun y1 => (LeO.nob (fun h0 => (LeO.bind (spec_l1In.f.br _ _ _) (fun y8 => (LeO.nob (fun h1 => (LeO.bind (spec_l1In.f.br _ _ _) (fun y10 => (ih_j0 _ _ _ _ _ _)))) (fun h1 => (ih_j0 _ _ _ _ _ _)))))) (fun h0 => (ih_j0 _ _ _ _ _ _)))))
def spec_l1Cur_surePuzzle.f (k : Nat) (x0_0 : List Int) (x0_1 : Int) (x0_2 : Int) (x1 : Int) : Option ((Int × (List (Int × Int × Int))) × (List Int) × Int × Int) := (spec_l1Cur_hidden.f x0_0 x0_1 x0_2).bind fun y1 => ((spec_l1Cur_pick.f y1.2.1 y1.2.2.1 y1.2.2.2 (IntKind.i64.wrap (x1 + 1))).bind fun y3 => ((spec_l1Cur_pick.f y3.2.1 y3.2.2.1 y3.2.2.2 10000).bind fun y4 => ((spec_MakePuzzle.f k y1.1 y3.1 y4.1).bind fun y5 => (some ((y5.1.1, y5.1.2), y4.2.1, y4.2.2.1, y4.2.2.2)))))
theorem spec_l1Cur_surePuzzle.f.br (k : Nat) (x0_0 : List Int) (x0_1 : Int) (x0_2 : Int) (x1 : Int) : LeO (spec_l1Cur_surePuzzle.f k x0_0 x0_1 x0_2 x1) (S.spec_l1Cur_surePuzzle.f x0_0 x0_1 x0_2 x1) := by
 refine LeO.of (S.spec_l1Cur_surePuzzle.f.eq _ _ _ _) ?_
 unfold spec_l1Cur_surePuzzle.f
 exact (LeO.bind (spec_l1Cur_hidden.f.br _ _ _) (fun y1 => (LeO.bind (spec_l1Cur_pick.f.br _ _ _ _) (fun y3 => (LeO.bind (spec_l1Cur_pick.f.br _ _ _ _) (fun y4 => (LeO.bind (spec_MakePuzzle.f.br k _ _ _) (fun y5 => LeO.refl _))))))))
def spec_l1Cur_surePuzzle_w.f (k : Nat) (x0_0 : List Int) (x0_1 : Int) (x0_2 : Int) (x1 : Int) : Option ((Int × (List (Int × Int × Int))) × (List Int) × Int × Int) := (spec_l1Cur_hidden.f x0_0 x0_1 x0_2).bind fun y1 => ((spec_l1Cur_pick.f y1.2.1 y1.2.2.1 y1.2.2.2 (IntKind.i64.wrap (x1 + 1))).bind fun y3 => ((spec_l1Cur_pick.f y3.2.1 y3.2.2.1 y3.2.2.2 10000).bind fun y4 => ((spec_MakePuzzle.f k y1.1 y3.1 y4.1).bind fun y5 => (some ((y5.1.1, y5.1.2), y4.2.1, y4.2.2.1, y4.2.2.2)))))
theorem spec_l1Cur_surePuzzle_w.f.br (k : Nat) (x0_0 : List Int) (x0_1 : Int) (x0_2 : Int) (x1 : Int) : LeO (spec_l1Cur_surePuzzle_w.f k x0_0 x0_1 x0_2 x1) (S.spec_l1Cur_surePuzzle_w.f x0_0 x0_1 x0_2 x1) := by
 refine LeO.of (S.spec_l1Cur_surePuzzle_w.f.eq _ _ _ _) ?_
 unfold spec_l1Cur_surePuzzle_w.f
 exact (LeO.bind (spec_l1Cur_hidden.f.br _ _ _) (fun y1 => (LeO.bind (spec_l1Cur_pick.f.br _ _ _ _) (fun y3 => (LeO.bind (spec_l1Cur_pick.f.br _ _ _ _) (fun y4 => (LeO.bind (spec_MakePuzzle.f.br k _ _ _) (fun y5 => LeO.refl _))))))))
def spec_l1Cur_among.f (x0_0 : List Int) (x0_1 : Int) (x0_2 : Int) (x1 : List Int) : Option (Int × (List Int) × Int × Int) := (spec_l1Cur_pick.f x0_0 x0_1 x0_2 (x1.length : Int)).bind fun y2 => (if 0 ≤ y2.1 then (if y2.1 < (x1.length : Int) then (some ((rde x1 y2.1), y2.2.1, y2.2.2.1, y2.2.2.2)) else (none)) else (none))
theorem spec_l1Cur_among.f.br (x0_0 : List Int) (x0_1 : Int) (x0_2 : Int) (x1 : List Int) : LeO (spec_l1Cur_among.f x0_0 x0_1 x0_2 x1) (S.spec_l1Cur_among.f x0_0 x0_1 x0_2 x1) := by
 refine LeO.of (S.spec_l1Cur_among.f.eq _ _ _ _) ?_
 unfold spec_l1Cur_among.f
 exact (LeO.bind (spec_l1Cur_pick.f.br _ _ _ _) (fun y2 => (LeO.tst fun h0 => (LeO.tst fun h1 => (LeO.rdI h0 h1 (LeO.refl _))))))
mutual
def spec_l1Cur_clue.j0 : Nat → Int → Int → Int → Int → Int → Int → List Int → Int → Int → Option ((Int × Int × Int) × (List Int) × Int × Int)
 | 0, _, _, _, _, _, _, _, _, _ => none
 | k + 1, xb2_0, xb2_1, xb2_2, xb3_0, xb3_1, xb3_2, x0_0, x0_1, x0_2 => (spec_l1Cur_one.f x0_0 x0_1 x0_2 14).bind fun y1 => (if y1.1 = true then ((spec_l1Cur_pick.f y1.2.1 y1.2.2.1 y1.2.2.2 3).bind fun y2 => (some ((xb3_0, (IntKind.i64.wrap (y2.1 - 1)), xb3_2), y2.2.1, y2.2.2.1, y2.2.2.2))) else (some ((xb3_0, xb3_1, xb3_2), y1.2.1, y1.2.2.1, y1.2.2.2)))
def spec_l1Cur_clue.j1 : Nat → Int → Bool → Int → Int → Int → Int → Int → Int → List Int → Int → Int → Option ((Int × Int × Int) × (List Int) × Int × Int)
 | 0, _, _, _, _, _, _, _, _, _, _, _ => none
 | k + 1, x18, x24, xb2_0, xb2_1, xb2_2, xb3_0, xb3_1, xb3_2, x0_0, x0_1, x0_2 => if x24 = true then ((spec_l1Cur_pick.f x0_0 x0_1 x0_2 4).bind fun y1 => ((spec_l1Cur_pick.f y1.2.1 y1.2.2.1 y1.2.2.2 3).bind fun y2 => (spec_l1Cur_clue.j0 k xb2_0 xb2_1 xb2_2 xb3_0 y1.1 y2.1 y2.2.1 y2.2.2.1 y2.2.2.2))) else (if x18 = 4 then ((spec_l1Cur_pick.f x0_0 x0_1 x0_2 4).bind fun y3 => (spec_l1Cur_clue.j0 k xb2_0 xb2_1 xb2_2 xb3_0 xb3_1 y3.1 y3.2.1 y3.2.2.1 y3.2.2.2)) else (if x18 = 6 then ((spec_l1Cur_pick.f x0_0 x0_1 x0_2 11).bind fun y4 => ((spec_l1Cur_pick.f y4.2.1 y4.2.2.1 y4.2.2.2 10).bind fun y5 => (spec_l1Cur_clue.j0 k xb2_0 xb2_1 xb2_2 xb3_0 y4.1 (IntKind.i64.wrap (1 + y5.1)) y5.2.1 y5.2.2.1 y5.2.2.2))) else (spec_l1Cur_clue.j0 k xb2_0 xb2_1 xb2_2 xb3_0 xb3_1 xb3_2 x0_0 x0_1 x0_2)))
end
def spec_l1Cur_clue.f (k : Nat) (x0_0 : List Int) (x0_1 : Int) (x0_2 : Int) : Option ((Int × Int × Int) × (List Int) × Int × Int) := (spec_l1Cur_pick.f x0_0 x0_1 x0_2 7).bind fun y1 => ((spec_l1Cur_pick.f y1.2.1 y1.2.2.1 y1.2.2.2 9).bind fun y2 => ((spec_l1Cur_pick.f y2.2.1 y2.2.2.1 y2.2.2.2 24).bind fun y5 => ((spec_l1Cur_pick.f y5.2.1 y5.2.2.1 y5.2.2.2 9).bind fun y6 => (if (IntKind.i64.wrap (y1.1 + (IntKind.i64.wrap (y2.1.tdiv 8)))) = 1 then ((spec_l1Cur_pick.f y6.2.1 y6.2.2.1 y6.2.2.2 4).bind fun y9 => (spec_l1Cur_clue.j0 k 0 0 0 (IntKind.i64.wrap (y1.1 + (IntKind.i64.wrap (y2.1.tdiv 8)))) y9.1 (IntKind.i64.wrap (y5.1 - (IntKind.i64.wrap (y6.1.tdiv 8)))) y9.2.1 y9.2.2.1 y9.2.2.2)) else (if (IntKind.i64.wrap (y1.1 + (IntKind.i64.wrap (y2.1.tdiv 8)))) = 3 then (spec_l1Cur_clue.j1 k (IntKind.i64.wrap (y1.1 + (IntKind.i64.wrap (y2.1.tdiv 8)))) ((IntKind.i64.wrap (y1.1 + (IntKind.i64.wrap (y2.1.tdiv 8)))) == 3) 0 0 0 (IntKind.i64.wrap (y1.1 + (IntKind.i64.wrap (y2.1.tdiv 8)))) 0 (IntKind.i64.wrap (y5.1 - (IntKind.i64.wrap (y6.1.tdiv 8)))) y6.2.1 y6.2.2.1 y6.2.2.2) else (spec_l1Cur_clue.j1 k (IntKind.i64.wrap (y1.1 + (IntKind.i64.wrap (y2.1.tdiv 8)))) ((IntKind.i64.wrap (y1.1 + (IntKind.i64.wrap (y2.1.tdiv 8)))) == 5) 0 0 0 (IntKind.i64.wrap (y1.1 + (IntKind.i64.wrap (y2.1.tdiv 8)))) 0 (IntKind.i64.wrap (y5.1 - (IntKind.i64.wrap (y6.1.tdiv 8)))) y6.2.1 y6.2.2.1 y6.2.2.2))))))
theorem spec_l1Cur_clue.br_l : ∀ k, (∀ (xb2_0 : Int) (xb2_1 : Int) (xb2_2 : Int) (xb3_0 : Int) (xb3_1 : Int) (xb3_2 : Int) (x0_0 : List Int) (x0_1 : Int) (x0_2 : Int), LeO (spec_l1Cur_clue.j0 k xb2_0 xb2_1 xb2_2 xb3_0 xb3_1 xb3_2 x0_0 x0_1 x0_2) (S.spec_l1Cur_clue.j0 xb2_0 xb2_1 xb2_2 xb3_0 xb3_1 xb3_2 x0_0 x0_1 x0_2)) ∧ (∀ (x18 : Int) (x24 : Bool) (xb2_0 : Int) (xb2_1 : Int) (xb2_2 : Int) (xb3_0 : Int) (xb3_1 : Int) (xb3_2 : Int) (x0_0 : List Int) (x0_1 : Int) (x0_2 : Int), LeO (spec_l1Cur_clue.j1 k x18 x24 xb2_0 xb2_1 xb2_2 xb3_0 xb3_1 xb3_2 x0_0 x0_1 x0_2) (S.spec_l1Cur_clue.j1 x18 x24 xb2_0 xb2_1 xb2_2 xb3_0 xb3_1 xb3_2 x0_0 x0_1 x0_2))
 | 0 => ⟨fun _ _ _ _ _ _ _ _ _ => LeO.none _, fun _ _ _ _ _ _ _ _ _ _ _ => LeO.none _⟩
 | k + 1 => by
  have ih := spec_l1Cur_clue.br_l k
  obtain ⟨ih_j0, ih_j1⟩ := ih
  refine ⟨fun xb2_0 xb2_1 xb2_2 xb3_0 xb3_1 xb3_2 x0_0 x0_1 x0_2 => ?_, fun x18 x24 xb2_0 xb2_1 xb2_2 xb3_0 xb3_1 xb3_2 x0_0 x0_1 x0_2 => ?_⟩
  ·refine LeO.of (S.spec_l1Cur_clue.j0.eq _ _ _ _ _ _ _ _ _) ?_
   unfold spec_l1Cur_clue.j0
   exact (LeO.bind (spec_l1Cur_one.f.br _ _ _ _) (fun y1 => (LeO.ite' (fun h0 => (LeO.bind (spec_l1Cur_pick.f.br _ _ _ _) (fun y2 => LeO.refl _))) (fun h0 => LeO.refl _))))
  ·refine LeO.of (S.spec_l1Cur_clue.j1.eq _ _ _ _ _ _ _ _ _ _ _) ?_
   unfold spec_l1Cur_clue.j1
   exact (LeO.ite' (fun h0 => (LeO.bind (spec_l1Cur_pick.f.br _ _ _ _) (fun y1 => (LeO.bind (spec_l1Cur_pick.f.br _ _ _ _) (fun y2 => (ih_j0 _ _ _ _ _ _ _ _ _)))))) (fun h0 => (LeO.beq (fun h1 => (LeO.bind (spec_l1Cur_pick.f.br _ _ _ _) (fun y3 => (ih_j0 _ _ _ _ _ _ _ _ _)))) (fun h1 => (LeO.beq (fun h2 => (LeO.bind (spec_l1Cur_pick.f.br _ _ _ _) (fun y4 => (LeO.bind (spec_l1Cur_pick.f.br _ _ _ _) (fun y5 => (ih_j0 _ _ _ _ _ _ _ _ _)))))) (fun h2 => (ih_j0 _ _ _ _ _ _ _ _ _)))))))
theorem spec_l1Cur_clue.f.br (k : Nat) (x0_0 : List Int) (x0_1 : Int) (x0_2 : Int) : LeO (spec_l1Cur_clue.f k x0_0 x0_1 x0_2) (S.spec_l1Cur_clue.f x0_0 x0_1 x0_2) := by
 refine LeO.of (S.spec_l1Cur_clue.f.eq _ _ _) ?_
 unfold spec_l1Cur_clue.f
 have ih_j0 := (spec_l1Cur_clue.br_l k).1
 have ih_j1 := (spec_l1Cur_clue.br_l k).2
 exact (LeO.bind (spec_l1Cur_pick.f.br _ _ _ _) (fun y1 => (LeO.bind (spec_l1Cur_pick.f.br _ _ _ _) (fun y2 => (LeO.bind (spec_l1Cur_pick.f.br _ _ _ _) (fun y5 => (LeO.bind (spec_l1Cur_pick.f.br _ _ _ _) (fun y6 => (LeO.beq (fun h0 => (LeO.bind (spec_l1Cur_pick.f.br _ _ _ _) (fun y9 => (ih_j0 _ _ _ _ _ _ _ _ _)))) (fun h0 => (LeO.beq (fun h1 => (ih_j1 _ _ _ _ _ _ _ _ _ _ _)) (fun h1 => (ih_j1 _ _ _ _ _ _ _ _ _ _ _)))))))))))))
mutual
def spec_l1Cur_puzzle.j0 : Nat → Int → Bool → Int → (List (Int × Int × Int)) → Int → (List (Int × Int × Int)) → List Int → Int → Int → Option ((Int × (List (Int × Int × Int))) × (List Int) × Int × Int)
 | 0, _, _, _, _, _, _, _, _, _ => none
 | k + 1, x7, x14, xb2_0, xb2_1, xb3_0, xb3_1, x0_0, x0_1, x0_2 => if x14 = true then ((spec_l1Cur_clue.f k x0_0 x0_1 x0_2).bind fun y1 => (if xb3_1.length < 5864062014805 then (some ((xb3_0, (xb3_1 ++ [y1.1])), y1.2.1, y1.2.2.1, y1.2.2.2)) else (none))) else (if x7 = 3 then (spec_l1Cur_puzzle.l0 k xb2_0 xb2_1 xb3_0 xb3_1 x0_0 x0_1 x0_2) else (some ((xb3_0, xb3_1), x0_0, x0_1, x0_2)))
def spec_l1Cur_puzzle.l0 : Nat → Int → (List (Int × Int × Int)) → Int → (List (Int × Int × Int)) → List Int → Int → Int → Option ((Int × (List (Int × Int × Int))) × (List Int) × Int × Int)
 | 0, _, _, _, _, _, _, _ => none
 | k + 1, xb2_0, xb2_1, xb3_0, xb3_1, x0_0, x0_1, x0_2 => (spec_l1Cur_pick.f x0_0 x0_1 x0_2 2).bind fun y2 => (if (xb3_1.length : Int) < (IntKind.i64.wrap (6 + y2.1)) then (if xb3_1.length < 5864062014805 then (spec_l1Cur_puzzle.l0 k xb2_0 xb2_1 xb3_0 (xb3_1 ++ [(0, 0, 12)]) y2.2.1 y2.2.2.1 y2.2.2.2) else (none)) else (some ((xb3_0, xb3_1), y2.2.1, y2.2.2.1, y2.2.2.2)))
end
def spec_l1Cur_puzzle.f (k : Nat) (x0_0 : List Int) (x0_1 : Int) (x0_2 : Int) : Option ((Int × (List (Int × Int × Int))) × (List Int) × Int × Int) := (spec_l1Cur_surePuzzle.f k x0_0 x0_1 x0_2 4).bind fun y1 => ((spec_l1Cur_pick.f y1.2.1 y1.2.2.1 y1.2.2.2 10).bind fun y2 => (if y2.1 = 0 then ((spec_l1Cur_among.f y2.2.1 y2.2.2.1 y2.2.2.2 [(-1), 0, 1, 2, 3, 4, 4611686018427387904]).bind fun y4 => (some ((y4.1, y1.1.2), y4.2.1, y4.2.2.1, y4.2.2.2))) else (if y2.1 = 1 then (spec_l1Cur_puzzle.j0 k y2.1 (y2.1 == 1) 0 [] y1.1.1 y1.1.2 y2.2.1 y2.2.2.1 y2.2.2.2) else (spec_l1Cur_puzzle.j0 k y2.1 (y2.1 == 2) 0 [] y1.1.1 y1.1.2 y2.2.1 y2.2.2.1 y2.2.2.2))))
theorem spec_l1Cur_puzzle.br_l : ∀ k, (∀ (x7 : Int) (x14 : Bool) (xb2_0 : Int) (xb2_1 : List (Int × Int × Int)) (xb3_0 : Int) (xb3_1 : List (Int × Int × Int)) (x0_0 : List Int) (x0_1 : Int) (x0_2 : Int), LeO (spec_l1Cur_puzzle.j0 k x7 x14 xb2_0 xb2_1 xb3_0 xb3_1 x0_0 x0_1 x0_2) (S.spec_l1Cur_puzzle.j0 x7 x14 xb2_0 xb2_1 xb3_0 xb3_1 x0_0 x0_1 x0_2)) ∧ (∀ (xb2_0 : Int) (xb2_1 : List (Int × Int × Int)) (xb3_0 : Int) (xb3_1 : List (Int × Int × Int)) (x0_0 : List Int) (x0_1 : Int) (x0_2 : Int), LeO (spec_l1Cur_puzzle.l0 k xb2_0 xb2_1 xb3_0 xb3_1 x0_0 x0_1 x0_2) (S.spec_l1Cur_puzzle.l0 xb2_0 xb2_1 xb3_0 xb3_1 x0_0 x0_1 x0_2))
 | 0 => ⟨fun _ _ _ _ _ _ _ _ _ => LeO.none _, fun _ _ _ _ _ _ _ => LeO.none _⟩
 | k + 1 => by
  have ih := spec_l1Cur_puzzle.br_l k
  obtain ⟨ih_j0, ih_l0⟩ := ih
  refine ⟨fun x7 x14 xb2_0 xb2_1 xb3_0 xb3_1 x0_0 x0_1 x0_2 => ?_, fun xb2_0 xb2_1 xb3_0 xb3_1 x0_0 x0_1 x0_2 => ?_⟩
  ·refine LeO.of (S.spec_l1Cur_puzzle.j0.eq _ _ _ _ _ _ _ _ _) ?_
   unfold spec_l1Cur_puzzle.j0
   exact (LeO.ite' (fun h0 => (LeO.bind (spec_l1Cur_clue.f.br k _ _ _) (fun y1 => (LeO.tst fun h1 => (LeO.cat1 h1 (LeO.refl _)))))) (fun h0 => (LeO.beq (fun h1 => (ih_l0 _ _ _ _ _ _ _)) (fun h1 => LeO.refl _))))
  ·refine LeO.of (S.spec_l1Cur_puzzle.l0.eq _ _ _ _ _ _ _) ?_
   unfold spec_l1Cur_puzzle.l0
   exact (LeO.bind (spec_l1Cur_pick.f.br _ _ _ _) (fun y2 => (LeO.dec (fun h0 => (LeO.tst fun h1 => (LeO.cat1 h1 (ih_l0 _ _ _ _ _ _ _)))) (fun h0 => LeO.refl _))))
theorem spec_l1Cur_puzzle.f.br (k : Nat) (x0_0 : List Int) (x0_1 : Int) (x0_2 : Int) : LeO (spec_l1Cur_puzzle.f k x0_0 x0_1 x0_2) (S.spec_l1Cur_puzzle.f x0_0 x0_1 x0_2) := by
 refine LeO.of (S.spec_l1Cur_puzzle.f.eq _ _ _) ?_
 unfold spec_l1Cur_puzzle.f
 have ih_j0 := (spec_l1Cur_puzzle.br_l k).1
 exact (LeO.bind (spec_l1Cur_surePuzzle.f.br k _ _ _ _) (fun y1 => (LeO.bind (spec_l1Cur_pick.f.br _ _ _ _) (fun y2 => (LeO.beq (fun h0 => (LeO.bind (spec_l1Cur_among.f.br _ _ _ _) (fun y4 => LeO.refl _))) (fun h0 => (LeO.beq (fun h1 => (ih_j0 _ _ _ _ _ _ _ _ _)) (fun h1 => (ih_j0 _ _ _ _ _ _ _ _ _)))))))))
def spec_DrawIsPuzzle.f (k : Nat) (x0 : List Int) : Option (Int × (List (Int × Int × Int))) := (spec_l1Cur_puzzle.f k x0 0 0).bind fun y1 => (some (y1.1.1, y1.1.2))
theorem spec_DrawIsPuzzle.f.br (k : Nat) (x0 : List Int) : LeO (spec_DrawIsPuzzle.f k x0) (S.spec_DrawIsPuzzle.f x0) := by
 refine LeO.of (S.spec_DrawIsPuzzle.f.eq _) ?_
 unfold spec_DrawIsPuzzle.f
 exact (LeO.bind (spec_l1Cur_puzzle.f.br k _ _ _) (fun y1 => LeO.refl _))
def spec_DrawSolutions.f (k : Nat) (x0 : List Int) : Option (Int × (List (Int × Int × Int))) := (spec_DrawIsPuzzle.f k x0).bind fun y1 => (some (y1.1, y1.2))
theorem spec_DrawSolutions.f.br (k : Nat) (x0 : List Int) : LeO (spec_DrawSolutions.f k x0) (S.spec_DrawSolutions.f x0) := by
 refine LeO.of (S.spec_DrawSolutions.f.eq _) ?_
 unfold spec_DrawSolutions.f
 exact (LeO.bind (spec_DrawIsPuzzle.f.br k _) (fun y1 => LeO.refl _))
def impl_between.f (x0 : Int) (x1 : Int) (x2 : Int) : Option (Bool) := if x0 ≥ x1 then (some (decide (x0 ≤ x2))) else (some false)
theorem impl_between.f.br (x0 : Int) (x1 : Int) (x2 : Int) : LeO (impl_between.f x0 x1 x2) (S.impl_between.f x0 x1 x2) := by
 refine LeO.of (S.impl_between.f.eq _ _ _) ?_
 unfold impl_between.f
 exact (LeO.dec (fun h0 => LeO.refl _) (fun h0 => LeO.refl _))
mutual
def impl_IsClue.j0 : Nat → Int → Bool → Int → Int → Int → Option (Bool)
 | 0, _, _, _, _, _ => none
 | k + 1, x0, x19, xb3_0, xb3_1, xb3_2 => if x19 = true then (some false) else (if xb3_0 = 1 then ((impl_between.f xb3_1 0 (IntKind.i64.wrap (x0 - 1))).bind fun y3 => (some y3)) else (if xb3_0 = 3 then (impl_IsClue.j1 k x0 xb3_0 (xb3_0 == 3) xb3_0 xb3_1 xb3_2) else (impl_IsClue.j1 k x0 xb3_0 (xb3_0 == 5) xb3_0 xb3_1 xb3_2)))
def impl_IsClue.j1 : Nat → Int → Int → Bool → Int → Int → Int → Option (Bool)
 | 0, _, _, _, _, _, _ => none
 | k + 1, x0, x21, x29, xb3_0, xb3_1, xb3_2 => if x29 = true then ((impl_between.f xb3_1 0 (IntKind.i64.wrap (x0 - 1))).bind fun y2 => (if y2 = true then (some (decide (xb3_2 ≤ 1))) else (some false))) else (if x21 = 6 then ((impl_between.f xb3_1 0 9).bind fun y5 => (if y5 = true then ((impl_between.f xb3_2 2 9).bind fun y6 => (some y6)) else (some false))) else (some (xb3_1 == 0)))
end
def impl_IsClue.f (k : Nat) (x0 : Int) (x1 : Int × Int × Int) : Option (Bool) := (impl_between.f x0 2 3).bind fun y1 => (if y1 = true then ((impl_between.f x1.1 0 6).bind fun y10 => (if y10 = true then ((impl_between.f x1.2.2 0 2000).bind fun y12 => (impl_IsClue.j0 k x0 (!y12) x1.1 x1.2.1 x1.2.2)) else (impl_IsClue.j0 k x0 true x1.1 x1.2.1 x1.2.2))) else (impl_IsClue.j0 k x0 true x1.1 x1.2.1 x1.2.2))
theorem impl_IsClue.br_l : ∀ k, (∀ (x0 : Int) (x19 : Bool) (xb3_0 : Int) (xb3_1 : Int) (xb3_2 : Int), LeO (impl_IsClue.j0 k x0 x19 xb3_0 xb3_1 xb3_2) (S.impl_IsClue.j0 x0 x19 xb3_0 xb3_1 xb3_2)) ∧ (∀ (x0 : Int) (x21 : Int) (x29 : Bool) (xb3_0 : Int) (xb3_1 : Int) (xb3_2 : Int), LeO (impl_IsClue.j1 k x0 x21 x29 xb3_0 xb3_1 xb3_2) (S.impl_IsClue.j1 x0 x21 x29 xb3_0 xb3_1 xb3_2))
 | 0 => ⟨fun _ _ _ _ _ => LeO.none _, fun _ _ _ _ _ _ => LeO.none _⟩
 | k + 1 => by
  have ih := impl_IsClue.br_l k
  obtain ⟨ih_j0, ih_j1⟩ := ih
  refine ⟨fun x0 x19 xb3_0 xb3_1 xb3_2 => ?_, fun x0 x21 x29 xb3_0 xb3_1 xb3_2 => ?_⟩
  ·refine LeO.of (S.impl_IsClue.j0.eq _ _ _ _ _) ?_
   unfold impl_IsClue.j0
   exact (LeO.ite' (fun h0 => LeO.refl _) (fun h0 => (LeO.beq (fun h1 => (LeO.bind (impl_between.f.br _ _ _) (fun y3 => LeO.refl _))) (fun h1 => (LeO.beq (fun h2 => (ih_j1 _ _ _ _ _ _)) (fun h2 => (ih_j1 _ _ _ _ _ _)))))))
  ·refine LeO.of (S.impl_IsClue.j1.eq _ _ _ _ _ _) ?_
   unfold impl_IsClue.j1
   exact (LeO.ite' (fun h0 => (LeO.bind (impl_between.f.br _ _ _) (fun y2 => (LeO.ite' (fun h1 => LeO.refl _) (fun h1 => LeO.refl _))))) (fun h0 => (LeO.beq (fun h1 => (LeO.bind (impl_between.f.br _ _ _) (fun y5 => (LeO.ite' (fun h2 => (LeO.bind (impl_between.f.br _ _ _) (fun y6 => LeO.refl _))) (fun h2 => LeO.refl _))))) (fun h1 => LeO.refl _))))
theorem impl_IsClue.f.br (k : Nat) (x0 : Int) (x1 : Int × Int × Int) : LeO (impl_IsClue.f k x0 x1) (S.impl_IsClue.f x0 x1) := by
 refine LeO.of (S.impl_IsClue.f.eq _ _) ?_
 unfold impl_IsClue.f
 have ih_j0 := (impl_IsClue.br_l k).1
 exact (LeO.bind (impl_between.f.br _ _ _) (fun y1 => (LeO.nob (fun h0 => (LeO.bind (impl_between.f.br _ _ _) (fun y10 => (LeO.nob (fun h1 => (LeO.bind (impl_between.f.br _ _ _) (fun y12 => (ih_j0 _ _ _ _ _)))) (fun h1 => (ih_j0 _ _ _ _ _)))))) (fun h0 => (ih_j0 _ _ _ _ _)))))
def impl_IsPuzzle_1.f (k : Nat) (x0 : Int × Int × Int) (x1 : Int × (List (Int × Int × Int))) : Option (Bool) := (impl_IsClue.f k x1.1 (x0.1, x0.2.1, x0.2.2)).bind fun y1 => (some (!y1))
theorem impl_IsPuzzle_1.f.br (k : Nat) (x0 : Int × Int × Int) (x1 : Int × (List (Int × Int × Int))) : LeO (impl_IsPuzzle_1.f k x0 x1) (S.impl_IsPuzzle_1.f x0 x1) := by
 refine LeO.of (S.impl_IsPuzzle_1.f.eq _ _) ?_
 unfold impl_IsPuzzle_1.f
 exact (LeO.bind (impl_IsClue.f.br k _ _) (fun y1 => LeO.refl _))
def impl_total.l0 : Nat → Int → List Int → Int → Int → Option (Int)
 | 0, _, _, _, _ => none
 | k + 1, x3, x6, x7, x8 => if x8 < x7 then (if 0 ≤ x8 then (if x8 < (x6.length : Int) then (impl_total.l0 k (IntKind.i64.wrap (x3 + (rde x6 x8))) x6 x7 (IntKind.i64.wrap (x8 + 1))) else (none)) else (none)) else (some x3)
def impl_total.f (k : Nat) (x0 : List Int) : Option (Int) := impl_total.l0 k 0 x0 (x0.length : Int) 0
theorem impl_total.br_l : ∀ k, (∀ (x3 : Int) (x6 : List Int) (x7 : Int) (x8 : Int), LeO (impl_total.l0 k x3 x6 x7 x8) (S.impl_total.l0 x3 x6 x7 x8))
 | 0 => fun _ _ _ _ => LeO.none _
 | k + 1 => by
  have ih := impl_total.br_l k
  have ih_l0 := ih
  refine fun x3 x6 x7 x8 => ?_
  ·refine LeO.of (S.impl_total.l0.eq _ _ _ _) ?_
   show LeO (impl_total.l0 (k + 1) x3 x6 x7 x8) _
   unfold impl_total.l0
   exact (LeO.dec (fun h0 => (LeO.tst fun h1 => (LeO.tst fun h2 => (LeO.rdI h1 h2 (ih_l0 _ _ _ _))))) (fun h0 => LeO.refl _))
theorem impl_total.f.br (k : Nat) (x0 : List Int) : LeO (impl_total.f k x0) (S.impl_total.f x0) := by
 refine LeO.of (S.impl_total.f.eq _) ?_
 unfold impl_total.f
 have ih_l0 := (impl_total.br_l k)
 exact (ih_l0 _ _ _ _)
def impl_product.l0 : Nat → Int → List Int → Int → Int → Option (Int)
 | 0, _, _, _, _ => none
 | k + 1, x3, x6, x7, x8 => if x8 < x7 then (if 0 ≤ x8 then (if x8 < (x6.length : Int) then (impl_product.l0 k (IntKind.i64.wrap (x3 * (rde x6 x8))) x6 x7 (IntKind.i64.wrap (x8 + 1))) else (none)) else (none)) else (some x3)
def impl_product.f (k : Nat) (x0 : List Int) : Option (Int) := impl_product.l0 k 1 x0 (x0.length : Int) 0
theorem impl_product.br_l : ∀ k, (∀ (x3 : Int) (x6 : List Int) (x7 : Int) (x8 : Int), LeO (impl_product.l0 k x3 x6 x7 x8) (S.impl_product.l0 x3 x6 x7 x8))
 | 0 => fun _ _ _ _ => LeO.none _
 | k + 1 => by
  have ih := impl_product.br_l k
  have ih_l0 := ih
  refine fun x3 x6 x7 x8 => ?_
  ·refine LeO.of (S.impl_product.l0.eq _ _ _ _) ?_
   show LeO (impl_product.l0 (k + 1) x3 x6 x7 x8) _
   unfold impl_product.l0
   exact (LeO.dec (fun h0 => (LeO.tst fun h1 => (LeO.tst fun h2 => (LeO.rdI h1 h2 (ih_l0 _ _ _ _))))) (fun h0 => LeO.refl _))
theorem impl_product.f.br (k : Nat) (x0 : List Int) : LeO (impl_product.f k x0) (S.impl_product.f x0) := by
 refine LeO.of (S.impl_product.f.eq _) ?_
 unfold impl_product.f
 have ih_l0 := (impl_product.br_l k)
 exact (ih_l0 _ _ _ _)
def impl_productOf.f (k : Nat) (x0 : List Int) : Option (Int) := (impl_product.f k x0).bind fun y1 => (some y1)
theorem impl_productOf.f.br (k : Nat) (x0 : List Int) : LeO (impl_productOf.f k x0) (S.impl_productOf.f x0) := by
 refine LeO.of (S.impl_productOf.f.eq _) ?_
 unfold impl_productOf.f
 exact (LeO.bind (impl_product.f.br k _) (fun y1 => LeO.refl _))
def impl_bit.f (x0 : Bool) : Option (Int) := if x0 = true then (some 1) else (some 0)
theorem impl_bit.f.br (x0 : Bool) : LeO (impl_bit.f x0) (S.impl_bit.f x0) := by
 refine LeO.of (S.impl_bit.f.eq _) ?_
 unfold impl_bit.f
 exact (LeO.ite' (fun h0 => LeO.refl _) (fun h0 => LeO.refl _))
def impl_isPrime.l0 : Nat → Int → Int → Option (Bool)
 | 0, _, _ => none
 | k + 1, x0, x3 => if (IntKind.i64.wrap (x3 * x3)) ≤ x0 then (if x3 = 0 then (none) else (if (x0.tmod x3) = 0 then (some false) else (impl_isPrime.l0 k x0 (IntKind.i64.wrap (x3 + 1))))) else (some (decide (x0 > 1)))
def impl_isPrime.f (k : Nat) (x0 : Int) : Option (Bool) := impl_isPrime.l0 k x0 2
theorem impl_isPrime.br_l : ∀ k, (∀ (x0 : Int) (x3 : Int), LeO (impl_isPrime.l0 k x0 x3) (S.impl_isPrime.l0 x0 x3))
 | 0 => fun _ _ => LeO.none _
 | k + 1 => by
  have ih := impl_isPrime.br_l k
  have ih_l0 := ih
  refine fun x0 x3 => ?_
  ·refine LeO.of (S.impl_isPrime.l0.eq _ _) ?_
   show LeO (impl_isPrime.l0 (k + 1) x0 x3) _
   unfold impl_isPrime.l0
   exact (LeO.dec (fun h0 => (LeO.ite (LeO.none _) (LeO.beq (fun h1 => LeO.refl _) (fun h1 => (ih_l0 _ _))))) (fun h0 => LeO.refl _))
theorem impl_isPrime.f.br (k : Nat) (x0 : Int) : LeO (impl_isPrime.f k x0) (S.impl_isPrime.f x0) := by
 refine LeO.of (S.impl_isPrime.f.eq _) ?_
 unfold impl_isPrime.f
 have ih_l0 := (impl_isPrime.br_l k)
 exact (ih_l0 _ _)
def impl_ofKind_1.f (x0 : Int) : Option (Int) := some (IntKind.i64.wrap (x0 * x0))
theorem impl_ofKind_1.f.br (x0 : Int) : LeO (impl_ofKind_1.f x0) (S.impl_ofKind_1.f x0) := by
 refine LeO.of (S.impl_ofKind_1.f.eq _) ?_
 unfold impl_ofKind_1.f
 exact LeO.refl _
def impl_ofKind_2.f (x0 : Int) : Option (Int) := some (IntKind.i64.wrap ((IntKind.i64.wrap (x0 * x0)) * x0))
theorem impl_ofKind_2.f.br (x0 : Int) : LeO (impl_ofKind_2.f x0) (S.impl_ofKind_2.f x0) := by
 refine LeO.of (S.impl_ofKind_2.f.eq _) ?_
 unfold impl_ofKind_2.f
 exact LeO.refl _
def impl_ofKind_3.f (x0 : Int) : Option (Int) := some (IntKind.i64.wrap ((IntKind.i64.wrap (x0 * (IntKind.i64.wrap (x0 + 1)))).tdiv 2))
theorem impl_ofKind_3.f.br (x0 : Int) : LeO (impl_ofKind_3.f x0) (S.impl_ofKind_3.f x0) := by
 refine LeO.of (S.impl_ofKind_3.f.eq _) ?_
 unfold impl_ofKind_3.f
 exact LeO.refl _
def impl_isMade.l0 : Nat → Int → Int → Option (Bool)
 | 0, _, _ => none
 | k + 1, x0, x5 => ((impl_ofKind_1.f x5).bind some).bind fun y1 => (if y1 < x0 then (impl_isMade.l0 k x0 (IntKind.i64.wrap (x5 + 1))) else (((impl_ofKind_1.f x5).bind some).bind fun y4 => (some (y4 == x0))))
def impl_isMade.f (k : Nat) (x0 : Int) : Option (Bool) := impl_isMade.l0 k x0 0
theorem impl_isMade.br_l : ∀ k, (∀ (x0 : Int) (x5 : Int), LeO (impl_isMade.l0 k x0 x5) (S.impl_isMade.l0 x0 x5))
 | 0 => fun _ _ => LeO.none _
 | k + 1 => by
  have ih := impl_isMade.br_l k
  have ih_l0 := ih
  refine fun x0 x5 => ?_
  ·refine LeO.of (S.impl_isMade.l0.eq _ _) ?_
   show LeO (impl_isMade.l0 (k + 1) x0 x5) _
   unfold impl_isMade.l0
   exact (LeO.bind (LeO.bind (impl_ofKind_1.f.br _) (fun _ => LeO.refl _)) (fun y1 => (LeO.dec (fun h0 => (ih_l0 _ _)) (fun h0 => (LeO.bind (LeO.bind (impl_ofKind_1.f.br _) (fun _ => LeO.refl _)) (fun y4 => LeO.refl _))))))
theorem impl_isMade.f.br (k : Nat) (x0 : Int) : LeO (impl_isMade.f k x0) (S.impl_isMade.f x0) := by
 refine LeO.of (S.impl_isMade.f.eq _) ?_
 unfold impl_isMade.f
 have ih_l0 := (impl_isMade.br_l k)
 exact (ih_l0 _ _)
def impl_isMade_v1.l0 : Nat → Int → Int → Option (Bool)
 | 0, _, _ => none
 | k + 1, x0, x5 => ((impl_ofKind_2.f x5).bind some).bind fun y1 => (if y1 < x0 then (impl_isMade_v1.l0 k x0 (IntKind.i64.wrap (x5 + 1))) else (((impl_ofKind_2.f x5).bind some).bind fun y4 => (some (y4 == x0))))
def impl_isMade_v1.f (k : Nat) (x0 : Int) : Option (Bool) := impl_isMade_v1.l0 k x0 0
theorem impl_isMade_v1.br_l : ∀ k, (∀ (x0 : Int) (x5 : Int), LeO (impl_isMade_v1.l0 k x0 x5) (S.impl_isMade_v1.l0 x0 x5))
 | 0 => fun _ _ => LeO.none _
 | k + 1 => by
  have ih := impl_isMade_v1.br_l k
  have ih_l0 := ih
  refine fun x0 x5 => ?_
  ·refine LeO.of (S.impl_isMade_v1.l0.eq _ _) ?_
   show LeO (impl_isMade_v1.l0 (k + 1) x0 x5) _
   unfold impl_isMade_v1.l0
   exact (LeO.bind (LeO.bind (impl_ofKind_2.f.br _) (fun _ => LeO.refl _)) (fun y1 => (LeO.dec (fun h0 => (ih_l0 _ _)) (fun h0 => (LeO.bind (LeO.bind (impl_ofKind_2.f.br _) (fun _ => LeO.refl _)) (fun y4 => LeO.refl _))))))
theorem impl_isMade_v1.f.br (k : Nat) (x0 : Int) : LeO (impl_isMade_v1.f k x0) (S.impl_isMade_v1.f x0) := by
 refine LeO.of (S.impl_isMade_v1.f.eq _) ?_
 unfold impl_isMade_v1.f
 have ih_l0 := (impl_isMade_v1.br_l k)
 exact (ih_l0 _ _)
def impl_isMade_v2.l0 : Nat → Int → Int → Option (Bool)
 | 0, _, _ => none
 | k + 1, x0, x5 => ((impl_ofKind_3.f x5).bind some).bind fun y1 => (if y1 < x0 then (impl_isMade_v2.l0 k x0 (IntKind.i64.wrap (x5 + 1))) else (((impl_ofKind_3.f x5).bind some).bind fun y4 => (some (y4 == x0))))
def impl_isMade_v2.f (k : Nat) (x0 : Int) : Option (Bool) := impl_isMade_v2.l0 k x0 0
theorem impl_isMade_v2.br_l : ∀ k, (∀ (x0 : Int) (x5 : Int), LeO (impl_isMade_v2.l0 k x0 x5) (S.impl_isMade_v2.l0 x0 x5))
 | 0 => fun _ _ => LeO.none _
 | k + 1 => by
  have ih := impl_isMade_v2.br_l k
  have ih_l0 := ih
  refine fun x0 x5 => ?_
  ·refine LeO.of (S.impl_isMade_v2.l0.eq _ _) ?_
   show LeO (impl_isMade_v2.l0 (k + 1) x0 x5) _
   unfold impl_isMade_v2.l0
   exact (LeO.bind (LeO.bind (impl_ofKind_3.f.br _) (fun _ => LeO.refl _)) (fun y1 => (LeO.dec (fun h0 => (ih_l0 _ _)) (fun h0 => (LeO.bind (LeO.bind (impl_ofKind_3.f.br _) (fun _ => LeO.refl _)) (fun y4 => LeO.refl _))))))
theorem impl_isMade_v2.f.br (k : Nat) (x0 : Int) : LeO (impl_isMade_v2.f k x0) (S.impl_isMade_v2.f x0) := by
 refine LeO.of (S.impl_isMade_v2.f.eq _) ?_
 unfold impl_isMade_v2.f
 have ih_l0 := (impl_isMade_v2.br_l k)
 exact (ih_l0 _ _)
def impl_areAlike.l0 : Nat → Int → Int → Option (Bool)
 | 0, _, _ => none
 | k + 1, x0, x3 => if x3 ≥ 10 then (if (x3.tmod 10) = ((IntKind.i64.wrap (x3.tdiv 10)).tmod 10) then (impl_areAlike.l0 k x0 (IntKind.i64.wrap (x3.tdiv 10))) else (some false)) else (some (decide (x0 ≥ 10)))
def impl_areAlike.f (k : Nat) (x0 : Int) : Option (Bool) := impl_areAlike.l0 k x0 x0
theorem impl_areAlike.br_l : ∀ k, (∀ (x0 : Int) (x3 : Int), LeO (impl_areAlike.l0 k x0 x3) (S.impl_areAlike.l0 x0 x3))
 | 0 => fun _ _ => LeO.none _
 | k + 1 => by
  have ih := impl_areAlike.br_l k
  have ih_l0 := ih
  refine fun x0 x3 => ?_
  ·refine LeO.of (S.impl_areAlike.l0.eq _ _) ?_
   show LeO (impl_areAlike.l0 (k + 1) x0 x3) _
   unfold impl_areAlike.l0
   exact (LeO.dec (fun h0 => (LeO.bne (fun h1 => (ih_l0 _ _)) (fun h1 => LeO.refl _))) (fun h0 => LeO.refl _))
theorem impl_areAlike.f.br (k : Nat) (x0 : Int) : LeO (impl_areAlike.f k x0) (S.impl_areAlike.f x0) := by
 refine LeO.of (S.impl_areAlike.f.eq _) ?_
 unfold impl_areAlike.f
 have ih_l0 := (impl_areAlike.br_l k)
 exact (ih_l0 _ _)
def impl_ofKind.f (k : Nat) (x0 : Int) (x1 : List UInt8) : Option (Bool) := if x1 = [112] then ((impl_isPrime.f k x0).bind fun y2 => (some y2)) else (if x1 = [115] then ((impl_isMade.f k x0).bind fun y4 => (some y4)) else (if x1 = [99] then ((impl_isMade_v1.f k x0).bind fun y6 => (some y6)) else (if x1 = [116] then ((impl_isMade_v2.f k x0).bind fun y8 => (some y8)) else (if x1 = [100] then ((impl_areAlike.f k x0).bind fun y10 => (some y10)) else (if x0 ≥ 10 then (some ((x0.tmod 10) == 0)) else (some false))))))
theorem impl_ofKind.f.br (k : Nat) (x0 : Int) (x1 : List UInt8) : LeO (impl_ofKind.f k x0 x1) (S.impl_ofKind.f x0 x1) := by
 refine LeO.of (S.impl_ofKind.f.eq _ _) ?_
 unfold impl_ofKind.f
 exact (LeO.beq (fun h0 => (LeO.bind (impl_isPrime.f.br k _) (fun y2 => LeO.refl _))) (fun h0 => (LeO.beq (fun h1 => (LeO.bind (impl_isMade.f.br k _) (fun y4 => LeO.refl _))) (fun h1 => (LeO.beq (fun h2 => (LeO.bind (impl_isMade_v1.f.br k _) (fun y6 => LeO.refl _))) (fun h2 => (LeO.beq (fun h3 => (LeO.bind (impl_isMade_v2.f.br k _) (fun y8 => LeO.refl _))) (fun h3 => (LeO.beq (fun h4 => (LeO.bind (impl_areAlike.f.br k _) (fun y10 => LeO.refl _))) (fun h4 => (LeO.dec (fun h5 => LeO.refl _) (fun h5 => LeO.refl _))))))))))))
def impl_countOf.l0 : Nat → List UInt8 → Int → List Int → Int → Int → Option (Int)
 | 0, _, _, _, _, _ => none
 | k + 1, x1, x5, x8, x9, x10 => if x10 < x9 then (if 0 ≤ x10 then (if x10 < (x8.length : Int) then ((impl_ofKind.f k (rde x8 x10) x1).bind fun y3 => (if y3 = true then (impl_countOf.l0 k x1 (IntKind.i64.wrap (x5 + 1)) x8 x9 (IntKind.i64.wrap (x10 + 1))) else (impl_countOf.l0 k x1 x5 x8 x9 (IntKind.i64.wrap (x10 + 1))))) else (none)) else (none)) else (some x5)
def impl_countOf.f (k : Nat) (x0 : List Int) (x1 : List UInt8) : Option (Int) := impl_countOf.l0 k x1 0 x0 (x0.length : Int) 0
theorem impl_countOf.br_l : ∀ k, (∀ (x1 : List UInt8) (x5 : Int) (x8 : List Int) (x9 : Int) (x10 : Int), LeO (impl_countOf.l0 k x1 x5 x8 x9 x10) (S.impl_countOf.l0 x1 x5 x8 x9 x10))
 | 0 => fun _ _ _ _ _ => LeO.none _
 | k + 1 => by
  have ih := impl_countOf.br_l k
  have ih_l0 := ih
  refine fun x1 x5 x8 x9 x10 => ?_
  ·refine LeO.of (S.impl_countOf.l0.eq _ _ _ _ _) ?_
   show LeO (impl_countOf.l0 (k + 1) x1 x5 x8 x9 x10) _
   unfold impl_countOf.l0
   exact (LeO.dec (fun h0 => (LeO.tst fun h1 => (LeO.tst fun h2 => (LeO.rdI h1 h2 (LeO.bind (impl_ofKind.f.br k _ _) (fun y3 => (LeO.ite' (fun h3 => (ih_l0 _ _ _ _ _)) (fun h3 => (ih_l0 _ _ _ _ _))))))))) (fun h0 => LeO.refl _))
theorem impl_countOf.f.br (k : Nat) (x0 : List Int) (x1 : List UInt8) : LeO (impl_countOf.f k x0 x1) (S.impl_countOf.f x0 x1) := by
 refine LeO.of (S.impl_countOf.f.eq _ _) ?_
 unfold impl_countOf.f
 have ih_l0 := (impl_countOf.br_l k)
 exact (ih_l0 _ _ _ _ _)
def impl_inYears.l0 : Nat → Int → List Int → List Int → Int → Int → Option (List Int)
 | 0, _, _, _, _, _ => none
 | k + 1, x1, x5, x9, x10, x11 => if x11 < x10 then (if 0 ≤ x11 then (if x11 < (x9.length : Int) then (if x5.length < 17592186044416 then (impl_inYears.l0 k x1 (x5 ++ [(IntKind.i64.wrap ((rde x9 x11) + x1))]) x9 x10 (IntKind.i64.wrap (x11 + 1))) else (none)) else (none)) else (none)) else (some x5)
def impl_inYears.f (k : Nat) (x0 : List Int) (x1 : Int) : Option (List Int) := impl_inYears.l0 k x1 [] x0 (x0.length : Int) 0
theorem impl_inYears.br_l : ∀ k, (∀ (x1 : Int) (x5 : List Int) (x9 : List Int) (x10 : Int) (x11 : Int), LeO (impl_inYears.l0 k x1 x5 x9 x10 x11) (S.impl_inYears.l0 x1 x5 x9 x10 x11))
 | 0 => fun _ _ _ _ _ => LeO.none _
 | k + 1 => by
  have ih := impl_inYears.br_l k
  have ih_l0 := ih
  refine fun x1 x5 x9 x10 x11 => ?_
  ·refine LeO.of (S.impl_inYears.l0.eq _ _ _ _ _) ?_
   show LeO (impl_inYears.l0 (k + 1) x1 x5 x9 x10 x11) _
   unfold impl_inYears.l0
   exact (LeO.dec (fun h0 => (LeO.tst fun h1 => (LeO.tst fun h2 => (LeO.rdI h1 h2 (LeO.tst fun h3 => (LeO.cat1 h3 (ih_l0 _ _ _ _ _))))))) (fun h0 => LeO.refl _))
theorem impl_inYears.f.br (k : Nat) (x0 : List Int) (x1 : Int) : LeO (impl_inYears.f k x0 x1) (S.impl_inYears.f x0 x1) := by
 refine LeO.of (S.impl_inYears.f.eq _ _) ?_
 unfold impl_inYears.f
 have ih_l0 := (impl_inYears.br_l k)
 exact (ih_l0 _ _ _ _ _)
def impl_tells.f (k : Nat) (x0 : Int) (x1 : Int) (x2 : List Int) : Option (Int) := if (x2.length : Int) = 0 then (none) else (if 0 ≤ ((IntKind.i64.wrap (x1 + 1)).tmod (x2.length : Int)) then (if ((IntKind.i64.wrap (x1 + 1)).tmod (x2.length : Int)) < (x2.length : Int) then (if x0 = 0 then ((impl_total.f k x2).bind fun y5 => (some y5)) else (if x0 = 1 then (if 0 ≤ x1 then (if x1 < (x2.length : Int) then (some (rde x2 x1)) else (none)) else (none)) else (if x0 = 2 then ((impl_productOf.f k x2).bind fun y7 => (some y7)) else (if x0 = 3 then (if 0 ≤ x1 then (if x1 < (x2.length : Int) then ((impl_bit.f (decide ((rde x2 x1) > (rde x2 ((IntKind.i64.wrap (x1 + 1)).tmod (x2.length : Int)))))).bind fun y10 => (some y10)) else (none)) else (none)) else (if x0 = 4 then ((impl_countOf.f k x2 [112]).bind fun y11 => (some y11)) else (if x0 = 5 then (if 0 ≤ x1 then (if x1 < (x2.length : Int) then (if (rde x2 ((IntKind.i64.wrap (x1 + 1)).tmod (x2.length : Int))) = 0 then (none) else ((impl_bit.f (((rde x2 x1).tmod (rde x2 ((IntKind.i64.wrap (x1 + 1)).tmod (x2.length : Int)))) == 0)).bind fun y14 => (some y14))) else (none)) else (none)) else ((impl_inYears.f k x2 x1).bind fun y15 => ((impl_total.f k y15).bind fun y16 => (some y16))))))))) else (none)) else (none))
theorem impl_tells.f.br (k : Nat) (x0 : Int) (x1 : Int) (x2 : List Int) : LeO (impl_tells.f k x0 x1 x2) (S.impl_tells.f x0 x1 x2) := by
 refine LeO.of (S.impl_tells.f.eq _ _ _) ?_
 unfold impl_tells.f
 exact (LeO.ite (LeO.none _) (LeO.tst fun h0 => (LeO.tst fun h1 => (LeO.rdI h0 h1 (LeO.beq (fun h2 => (LeO.bind (impl_total.f.br k _) (fun y5 => LeO.refl _))) (fun h2 => (LeO.beq (fun h3 => (LeO.tst fun h4 => (LeO.tst fun h5 => (LeO.rdI h4 h5 (LeO.refl _))))) (fun h3 => (LeO.beq (fun h4 => (LeO.bind (impl_productOf.f.br k _) (fun y7 => LeO.refl _))) (fun h4 => (LeO.beq (fun h5 => (LeO.tst fun h6 => (LeO.tst fun h7 => (LeO.rdI h6 h7 (LeO.bind (impl_bit.f.br _) (fun y10 => LeO.refl _)))))) (fun h5 => (LeO.beq (fun h6 => (LeO.bind (impl_countOf.f.br k _ _) (fun y11 => LeO.refl _))) (fun h6 => (LeO.beq (fun h7 => (LeO.tst fun h8 => (LeO.tst fun h9 => (LeO.rdI h8 h9 (LeO.ite (LeO.none _) (LeO.bind (impl_bit.f.br _) (fun y14 => LeO.refl _))))))) (fun h7 => (LeO.bind (impl_inYears.f.br k _ _) (fun y15 => (LeO.bind (impl_total.f.br k _) (fun y16 => LeO.refl _))))))))))))))))))))
def impl_Clue_fits.f (k : Nat) (x0 : Int × Int × Int) (x1 : List Int) : Option (Bool) := (impl_tells.f k x0.1 x0.2.1 x1).bind fun y1 => (if x0.1 = 6 then (if x0.2.2 = 0 then (none) else (some ((y1.tmod x0.2.2) == 0))) else (some (y1 == x0.2.2)))
theorem impl_Clue_fits.f.br (k : Nat) (x0 : Int × Int × Int) (x1 : List Int) : LeO (impl_Clue_fits.f k x0 x1) (S.impl_Clue_fits.f x0 x1) := by
 refine LeO.of (S.impl_Clue_fits.f.eq _ _) ?_
 unfold impl_Clue_fits.f
 exact (LeO.bind (impl_tells.f.br k _ _ _) (fun y1 => (LeO.beq (fun h0 => (LeO.ite (LeO.none _) (LeO.refl _))) (fun h0 => LeO.refl _))))
def impl_solutions_1_1.f (k : Nat) (x0 : Int × Int × Int) (x1 : List Int) : Option (Bool) := (impl_Clue_fits.f k (x0.1, x0.2.1, x0.2.2) x1).bind fun y1 => (some (!y1))
theorem impl_solutions_1_1.f.br (k : Nat) (x0 : Int × Int × Int) (x1 : List Int) : LeO (impl_solutions_1_1.f k x0 x1) (S.impl_solutions_1_1.f x0 x1) := by
 refine LeO.of (S.impl_solutions_1_1.f.eq _ _) ?_
 unfold impl_solutions_1_1.f
 exact (LeO.bind (impl_Clue_fits.f.br k _ _) (fun y1 => LeO.refl _))
def slices_IndexFunc.l0 : Nat → (List (Int × Int × Int)) → (Int × (List (Int × Int × Int))) → Int → Int → Option (Int)
 | 0, _, _, _, _ => none
 | k + 1, x0, x1_0, x7, x8 => if x8 < x7 then (if 0 ≤ x8 then (if x8 < (x0.length : Int) then (((impl_IsPuzzle_1.f k (rde x0 x8) x1_0).bind some).bind fun y3 => (if y3 = true then (some x8) else (slices_IndexFunc.l0 k x0 x1_0 x7 (IntKind.i64.wrap (x8 + 1))))) else (none)) else (none)) else (some (-1))
def slices_IndexFunc.f (k : Nat) (x0 : List (Int × Int × Int)) (x1_0 : Int × (List (Int × Int × Int))) : Option (Int) := slices_IndexFunc.l0 k x0 x1_0 (x0.length : Int) 0
theorem slices_IndexFunc.br_l : ∀ k, (∀ (x0 : List (Int × Int × Int)) (x1_0 : Int × (List (Int × Int × Int))) (x7 : Int) (x8 : Int), LeO (slices_IndexFunc.l0 k x0 x1_0 x7 x8) (S.slices_IndexFunc.l0 x0 x1_0 x7 x8))
 | 0 => fun _ _ _ _ => LeO.none _
 | k + 1 => by
  have ih := slices_IndexFunc.br_l k
  have ih_l0 := ih
  refine fun x0 x1_0 x7 x8 => ?_
  ·refine LeO.of (S.slices_IndexFunc.l0.eq _ _ _ _) ?_
   show LeO (slices_IndexFunc.l0 (k + 1) x0 x1_0 x7 x8) _
   unfold slices_IndexFunc.l0
   exact (LeO.dec (fun h0 => (LeO.tst fun h1 => (LeO.tst fun h2 => (LeO.rdI h1 h2 (LeO.bind (LeO.bind (impl_IsPuzzle_1.f.br k _ _) (fun _ => LeO.refl _)) (fun y3 => (LeO.ite' (fun h3 => LeO.refl _) (fun h3 => (ih_l0 _ _ _ _))))))))) (fun h0 => LeO.refl _))
theorem slices_IndexFunc.f.br (k : Nat) (x0 : List (Int × Int × Int)) (x1_0 : Int × (List (Int × Int × Int))) : LeO (slices_IndexFunc.f k x0 x1_0) (S.slices_IndexFunc.f x0 x1_0) := by
 refine LeO.of (S.slices_IndexFunc.f.eq _ _) ?_
 unfold slices_IndexFunc.f
 have ih_l0 := (slices_IndexFunc.br_l k)
 exact (ih_l0 _ _ _ _)
def slices_IndexFunc_v1.l0 : Nat → (List (Int × Int × Int)) → List Int → Int → Int → Option (Int)
 | 0, _, _, _, _ => none
 | k + 1, x0, x1_0, x7, x8 => if x8 < x7 then (if 0 ≤ x8 then (if x8 < (x0.length : Int) then (((impl_solutions_1_1.f k (rde x0 x8) x1_0).bind some).bind fun y3 => (if y3 = true then (some x8) else (slices_IndexFunc_v1.l0 k x0 x1_0 x7 (IntKind.i64.wrap (x8 + 1))))) else (none)) else (none)) else (some (-1))
def slices_IndexFunc_v1.f (k : Nat) (x0 : List (Int × Int × Int)) (x1_0 : List Int) : Option (Int) := slices_IndexFunc_v1.l0 k x0 x1_0 (x0.length : Int) 0
theorem slices_IndexFunc_v1.br_l : ∀ k, (∀ (x0 : List (Int × Int × Int)) (x1_0 : List Int) (x7 : Int) (x8 : Int), LeO (slices_IndexFunc_v1.l0 k x0 x1_0 x7 x8) (S.slices_IndexFunc_v1.l0 x0 x1_0 x7 x8))
 | 0 => fun _ _ _ _ => LeO.none _
 | k + 1 => by
  have ih := slices_IndexFunc_v1.br_l k
  have ih_l0 := ih
  refine fun x0 x1_0 x7 x8 => ?_
  ·refine LeO.of (S.slices_IndexFunc_v1.l0.eq _ _ _ _) ?_
   show LeO (slices_IndexFunc_v1.l0 (k + 1) x0 x1_0 x7 x8) _
   unfold slices_IndexFunc_v1.l0
   exact (LeO.dec (fun h0 => (LeO.tst fun h1 => (LeO.tst fun h2 => (LeO.rdI h1 h2 (LeO.bind (LeO.bind (impl_solutions_1_1.f.br k _ _) (fun _ => LeO.refl _)) (fun y3 => (LeO.ite' (fun h3 => LeO.refl _) (fun h3 => (ih_l0 _ _ _ _))))))))) (fun h0 => LeO.refl _))
theorem slices_IndexFunc_v1.f.br (k : Nat) (x0 : List (Int × Int × Int)) (x1_0 : List Int) : LeO (slices_IndexFunc_v1.f k x0 x1_0) (S.slices_IndexFunc_v1.f x0 x1_0) := by
 refine LeO.of (S.slices_IndexFunc_v1.f.eq _ _) ?_
 unfold slices_IndexFunc_v1.f
 have ih_l0 := (slices_IndexFunc_v1.br_l k)
 exact (ih_l0 _ _ _ _)
def slices_ContainsFunc.f (k : Nat) (x0 : List (Int × Int × Int)) (x1_0 : Int × (List (Int × Int × Int))) : Option (Bool) := (slices_IndexFunc.f k x0 x1_0).bind fun y1 => (some (decide (y1 ≥ 0)))
theorem slices_ContainsFunc.f.br (k : Nat) (x0 : List (Int × Int × Int)) (x1_0 : Int × (List (Int × Int × Int))) : LeO (slices_ContainsFunc.f k x0 x1_0) (S.slices_ContainsFunc.f x0 x1_0) := by
 refine LeO.of (S.slices_ContainsFunc.f.eq _ _) ?_
 unfold slices_ContainsFunc.f
 exact (LeO.bind (slices_IndexFunc.f.br k _ _) (fun y1 => LeO.refl _))
def slices_ContainsFunc_v1.f (k : Nat) (x0 : List (Int × Int × Int)) (x1_0 : List Int) : Option (Bool) := (slices_IndexFunc_v1.f k x0 x1_0).bind fun y1 => (some (decide (y1 ≥ 0)))
theorem slices_ContainsFunc_v1.f.br (k : Nat) (x0 : List (Int × Int × Int)) (x1_0 : List Int) : LeO (slices_ContainsFunc_v1.f k x0 x1_0) (S.slices_ContainsFunc_v1.f x0 x1_0) := by
 refine LeO.of (S.slices_ContainsFunc_v1.f.eq _ _) ?_
 unfold slices_ContainsFunc_v1.f
 exact (LeO.bind (slices_IndexFunc_v1.f.br k _ _) (fun y1 => LeO.refl _))
def impl_IsPuzzle.f (k : Nat) (x0 : Int × (List (Int × Int × Int))) : Option (Bool) := (impl_between.f x0.1 2 3).bind fun y1 => (if y1 = true then (if (x0.2.length : Int) ≤ 6 then ((slices_ContainsFunc.f k x0.2 (x0.1, x0.2)).bind fun y5 => (some (!y5))) else (some false)) else (some false))
theorem impl_IsPuzzle.f.br (k : Nat) (x0 : Int × (List (Int × Int × Int))) : LeO (impl_IsPuzzle.f k x0) (S.impl_IsPuzzle.f x0) := by
 refine LeO.of (S.impl_IsPuzzle.f.eq _) ?_
 unfold impl_IsPuzzle.f
 exact (LeO.bind (impl_between.f.br _ _ _) (fun y1 => (LeO.ite' (fun h0 => (LeO.dec (fun h1 => (LeO.bind (slices_ContainsFunc.f.br k _ _) (fun y5 => LeO.refl _))) (fun h1 => LeO.refl _))) (fun h0 => LeO.refl _))))
def slices_Clone.f (x0 : List Int) : Option (List Int) := if x0.length ≤ 17592186044416 then some x0 else none
theorem slices_Clone.f.br (x0 : List Int) : LeO (slices_Clone.f x0) (S.slices_Clone.f x0) := by
 refine LeO.of (S.slices_Clone.f.eq _) ?_
 unfold slices_Clone.f
 intro r h
 split at h
 ·rename_i hl
  obtain rfl := Option.some.inj h
  cases x0 with
  | nil => simp [nilT, both, catI]
  | cons a t =>
   have e : catI (appMax 8) [] (a :: t) = some (a :: t) := by
    unfold catI
    rw [if_pos (by rw [List.length_nil, Nat.zero_add]; exact hl), List.nil_append]
   simp only [nilT, e, Option.bind_some]
 ·cases h
/-! ### impl.solutions: all ages that fit, in a list that grows -/
def impl_solutions.leaf (k : Nat) (cl : List (Int × Int × Int)) (b : List Int) (out : List (List Int)) : Option (List (List Int)) := (slices_ContainsFunc_v1.f k cl b).bind fun bad => if bad = true then some out else if out.length < 5864062014805 then some (out ++ [b]) else none
/-- The ages from 13 - n to 12, each behind b. -/
def impl_solutions.ages (rec : List Int → List (List Int) → Option (List (List Int))) (b : List Int) : Nat → List (List Int) → Option (List (List Int))
 | 0, out => some out
 | n + 1, out => (rec (b ++ [12 - (n : Int)]) out).bind fun o => impl_solutions.ages rec b n o
def impl_solutions.put (k : Nat) (cl : List (Int × Int × Int)) : Nat → List Int → List (List Int) → Option (List (List Int))
 | 0, b, out => impl_solutions.leaf k cl b out
 | n + 1, b, out => impl_solutions.ages (impl_solutions.put k cl n) b 12 out
def impl_solutions.f (k : Nat) (x0 : Int) (x1 : List (Int × Int × Int)) : Option (List (List Int)) := if 0 ≤ x0 ∧ x0 ≤ 1000 then impl_solutions.put k x1 x0.toNat [] [] else none
theorem impl_solutions.ages_br (K : Nat) (p : Int) (cl : List (Int × Int × Int)) (b : List Int) (hb : b.length ≤ 1000) {g : List Int → List (List Int) → Option (List (List Int))} (hg : ∀ x out, LeO ((g (b ++ [x]) out).map fun o => (p, cl, o)) (S.impl_solutions_1.r K (b ++ [x]) p cl out)) : ∀ (n : Nat) (out : List (List Int)), n ≤ 12 → LeO ((impl_solutions.ages g b n out).map fun o => (p, cl, o)) (S.impl_solutions_1.l0 K (13 - (n : Int)) b p cl out)
 | 0, out, _ => by
  refine LeO.of (S.impl_solutions_1.l0.eq _ _ _ _ _ _) ?_
  rw [if_neg (by decide)]
  exact LeO.refl _
 | n + 1, out, hn => by
  refine LeO.of (S.impl_solutions_1.l0.eq _ _ _ _ _ _) ?_
  rw [if_pos (by rw [decide_eq_true_iff]; omega)]
  have e1 : (13 : Int) - ((n + 1 : Nat) : Int) = 12 - (n : Int) := by omega
  have hw : IntKind.i64.wrap (12 - (n : Int) + 1) = 13 - (n : Int) := by rw [Go.IntWalk.i64_left]; unfold Go.RowKit.wrap64; omega
  rw [e1, hw]
  have eo : S.slices_Clone.f b = some b := slices_Clone.f.br b _ (by unfold slices_Clone.f; rw [if_pos (by omega)])
  have ec : catI (appMax 8) b [12 - (n : Int)] = some (b ++ [12 - (n : Int)]) := by
   unfold catI
   rw [if_pos (by rw [List.length_singleton]; exact Nat.le_trans (Nat.succ_le_succ hb) (by decide))]
  rw [eo, Option.bind_some, ec, Option.bind_some]
  unfold impl_solutions.ages
  intro r hr
  obtain ⟨o, ho, rfl⟩ := Option.map_eq_some_iff.1 hr
  obtain ⟨o1, h1, h2⟩ := Option.bind_eq_some_iff.1 ho
  rw [hg (12 - (n : Int)) out (p, cl, o1) (by rw [h1]; rfl), Option.bind_some]
  exact impl_solutions.ages_br K p cl b hb hg n o1 (by omega) _ (by rw [h2]; rfl)
theorem impl_solutions.put_br (k : Nat) (p : Int) (cl : List (Int × Int × Int)) : ∀ (n K : Nat) (b : List Int) (out : List (List Int)), n + 1 ≤ K → b.length + n ≤ 1000 → (b.length : Int) + (n : Int) = p → LeO ((impl_solutions.put k cl n b out).map fun o => (p, cl, o)) (S.impl_solutions_1.r K b p cl out)
 | 0, K, b, out, hK, hb, hp => by
  obtain ⟨K, rfl⟩ : ∃ m, K = m + 1 := ⟨K - 1, by omega⟩
  refine LeO.of (S.impl_solutions_1.r.eq _ _ _ _ _) ?_
  rw [if_neg (by rw [decide_eq_true_iff]; omega)]
  unfold impl_solutions.put impl_solutions.leaf
  intro r hr
  obtain ⟨o, ho, rfl⟩ := Option.map_eq_some_iff.1 hr
  obtain ⟨bad, h1, h2⟩ := Option.bind_eq_some_iff.1 ho
  rw [slices_ContainsFunc_v1.f.br k cl b bad h1, Option.bind_some]
  cases bad
  ·rw [if_neg (by decide)] at h2
   rw [if_pos (by decide)]
   split at h2
   ·rename_i hl
    obtain rfl := Option.some.inj h2
    exact LeO.cat1 (a := some (p, cl, out ++ [b])) hl (LeO.refl _) _ rfl
   ·cases h2
  ·rw [if_pos rfl] at h2
   obtain rfl := Option.some.inj h2
   rfl
 | n + 1, K, b, out, hK, hb, hp => by
  obtain ⟨K, rfl⟩ : ∃ m, K = m + 1 := ⟨K - 1, by omega⟩
  refine LeO.of (S.impl_solutions_1.r.eq _ _ _ _ _) ?_
  rw [if_pos (by rw [decide_eq_true_iff]; omega)]
  unfold impl_solutions.put
  exact impl_solutions.ages_br K p cl b (by omega) (fun x o => impl_solutions.put_br k p cl n K (b ++ [x]) o (by omega) (by rw [List.length_append, List.length_singleton]; omega) (by rw [List.length_append, List.length_singleton]; omega)) 12 out (Nat.le_refl _)
theorem impl_solutions.f.br (k : Nat) (x0 : Int) (x1 : List (Int × Int × Int)) : LeO (impl_solutions.f k x0 x1) (S.impl_solutions.f x0 x1) := by
 unfold impl_solutions.f
 refine LeO.tst fun ⟨h0, h1⟩ => ?_
 obtain ⟨n, rfl⟩ : ∃ n : Nat, x0 = (n : Int) := ⟨x0.toNat, by omega⟩
 rw [Int.toNat_natCast]
 intro r hr
 have hlim : S.impl_solutions_1.f [] (n : Int) x1 [] = some ((n : Int), x1, r) := by
  refine lim_eq ⟨n + 1, fun K hK => ?_⟩
  exact impl_solutions.put_br k (n : Int) x1 n K [] [] hK (by rw [List.length_nil]; omega) (by rw [List.length_nil]; omega) _ (by rw [hr]; rfl)
 unfold S.impl_solutions.f
 rw [hlim]
 rfl
def impl_Puzzle_all.f (k : Nat) (x0 : Int × (List (Int × Int × Int))) : Option (List (List Int)) := (impl_solutions.f k x0.1 x0.2).bind fun y1 => (some y1)
theorem impl_Puzzle_all.f.br (k : Nat) (x0 : Int × (List (Int × Int × Int))) : LeO (impl_Puzzle_all.f k x0) (S.impl_Puzzle_all.f x0) := by
 refine LeO.of (S.impl_Puzzle_all.f.eq _) ?_
 unfold impl_Puzzle_all.f
 exact (LeO.bind (impl_solutions.f.br k _ _) (fun y1 => LeO.refl _))
def impl_Solutions.f (k : Nat) (x0 : Int × (List (Int × Int × Int))) : Option ((List (List Int)) × Bool) := (impl_IsPuzzle.f k (x0.1, x0.2)).bind fun y1 => (if y1 = true then ((impl_Puzzle_all.f k (x0.1, x0.2)).bind fun y2 => (some (y2, true))) else (some ([], false)))
theorem impl_Solutions.f.br (k : Nat) (x0 : Int × (List (Int × Int × Int))) : LeO (impl_Solutions.f k x0) (S.impl_Solutions.f x0) := by
 refine LeO.of (S.impl_Solutions.f.eq _) ?_
 unfold impl_Solutions.f
 exact (LeO.bind (impl_IsPuzzle.f.br k _) (fun y1 => (LeO.nob (fun h0 => (LeO.bind (impl_Puzzle_all.f.br k _) (fun y2 => LeO.refl _))) (fun h0 => LeO.refl _))))
mutual
def spec_pzClue.j0 : Nat → Int → Int → Bool → Int → Int → Int → Option (Bool)
 | 0, _, _, _, _, _, _ => none
 | k + 1, x0, x10, x11, xb3_0, xb3_1, xb3_2 => if x11 = true then (some (xb3_1 == 0)) else (if x10 = 1 then ((spec_l1In.f xb3_1 0 (IntKind.i64.wrap (x0 - 1))).bind fun y3 => (some y3)) else (if x10 = 3 then (spec_pzClue.j1 k x0 x10 (x10 == 3) xb3_0 xb3_1 xb3_2) else (spec_pzClue.j1 k x0 x10 (x10 == 5) xb3_0 xb3_1 xb3_2)))
def spec_pzClue.j1 : Nat → Int → Int → Bool → Int → Int → Int → Option (Bool)
 | 0, _, _, _, _, _, _ => none
 | k + 1, x0, x10, x25, xb3_0, xb3_1, xb3_2 => if x25 = true then ((spec_l1In.f xb3_1 0 (IntKind.i64.wrap (x0 - 1))).bind fun y2 => (if y2 = true then (some (decide (xb3_2 < 2))) else (some false))) else (if x10 = 6 then ((spec_l1In.f xb3_1 0 9).bind fun y5 => (if y5 = true then ((spec_l1In.f xb3_2 2 9).bind fun y6 => (some y6)) else (some false))) else (some false))
end
def spec_pzClue.f (k : Nat) (x0 : Int) (x1 : Int × Int × Int) : Option (Bool) := (spec_l1In.f x1.2.2 0 2000).bind fun y1 => (if y1 = true then (if x1.1 = 0 then (spec_pzClue.j0 k x0 x1.1 (x1.1 == 0) x1.1 x1.2.1 x1.2.2) else (if x1.1 = 2 then (spec_pzClue.j0 k x0 x1.1 (x1.1 == 2) x1.1 x1.2.1 x1.2.2) else (spec_pzClue.j0 k x0 x1.1 (x1.1 == 4) x1.1 x1.2.1 x1.2.2))) else (some false))
theorem spec_pzClue.br_l : ∀ k, (∀ (x0 : Int) (x10 : Int) (x11 : Bool) (xb3_0 : Int) (xb3_1 : Int) (xb3_2 : Int), LeO (spec_pzClue.j0 k x0 x10 x11 xb3_0 xb3_1 xb3_2) (S.spec_pzClue.j0 x0 x10 x11 xb3_0 xb3_1 xb3_2)) ∧ (∀ (x0 : Int) (x10 : Int) (x25 : Bool) (xb3_0 : Int) (xb3_1 : Int) (xb3_2 : Int), LeO (spec_pzClue.j1 k x0 x10 x25 xb3_0 xb3_1 xb3_2) (S.spec_pzClue.j1 x0 x10 x25 xb3_0 xb3_1 xb3_2))
 | 0 => ⟨fun _ _ _ _ _ _ => LeO.none _, fun _ _ _ _ _ _ => LeO.none _⟩
 | k + 1 => by
  have ih := spec_pzClue.br_l k
  obtain ⟨ih_j0, ih_j1⟩ := ih
  refine ⟨fun x0 x10 x11 xb3_0 xb3_1 xb3_2 => ?_, fun x0 x10 x25 xb3_0 xb3_1 xb3_2 => ?_⟩
  ·refine LeO.of (S.spec_pzClue.j0.eq _ _ _ _ _ _) ?_
   unfold spec_pzClue.j0
   exact (LeO.ite' (fun h0 => LeO.refl _) (fun h0 => (LeO.beq (fun h1 => (LeO.bind (spec_l1In.f.br _ _ _) (fun y3 => LeO.refl _))) (fun h1 => (LeO.beq (fun h2 => (ih_j1 _ _ _ _ _ _)) (fun h2 => (ih_j1 _ _ _ _ _ _)))))))
  ·refine LeO.of (S.spec_pzClue.j1.eq _ _ _ _ _ _) ?_
   unfold spec_pzClue.j1
   exact (LeO.ite' (fun h0 => (LeO.bind (spec_l1In.f.br _ _ _) (fun y2 => (LeO.ite' (fun h1 => LeO.refl _) (fun h1 => LeO.refl _))))) (fun h0 => (LeO.beq (fun h1 => (LeO.bind (spec_l1In.f.br _ _ _) (fun y5 => (LeO.ite' (fun h2 => (LeO.bind (spec_l1In.f.br _ _ _) (fun y6 => LeO.refl _))) (fun h2 => LeO.refl _))))) (fun h1 => LeO.refl _))))
theorem spec_pzClue.f.br (k : Nat) (x0 : Int) (x1 : Int × Int × Int) : LeO (spec_pzClue.f k x0 x1) (S.spec_pzClue.f x0 x1) := by
 refine LeO.of (S.spec_pzClue.f.eq _ _) ?_
 unfold spec_pzClue.f
 have ih_j0 := (spec_pzClue.br_l k).1
 exact (LeO.bind (spec_l1In.f.br _ _ _) (fun y1 => (LeO.nob (fun h0 => (LeO.beq (fun h1 => (ih_j0 _ _ _ _ _ _)) (fun h1 => (LeO.beq (fun h2 => (ih_j0 _ _ _ _ _ _)) (fun h2 => (ih_j0 _ _ _ _ _ _)))))) (fun h0 => LeO.refl _))))
mutual
def spec_pzGood.j0 : Nat → Bool → Int → (List (Int × Int × Int)) → Option (Bool)
 | 0, _, _, _ => none
 | k + 1, x14, xb1_0, xb1_1 => if x14 = true then (some false) else (spec_pzGood.l0 k xb1_1 (xb1_1.length : Int) 0 xb1_0 xb1_1)
def spec_pzGood.l0 : Nat → (List (Int × Int × Int)) → Int → Int → Int → (List (Int × Int × Int)) → Option (Bool)
 | 0, _, _, _, _, _ => none
 | k + 1, x16, x17, x18, xb1_0, xb1_1 => if x18 < x17 then (if 0 ≤ x18 then (if x18 < (x16.length : Int) then ((spec_pzClue.f k xb1_0 ((rde x16 x18).1, (rde x16 x18).2.1, (rde x16 x18).2.2)).bind fun y3 => (if y3 = true then (spec_pzGood.l0 k x16 x17 (IntKind.i64.wrap (x18 + 1)) xb1_0 xb1_1) else (some false))) else (none)) else (none)) else (some true)
end
def spec_pzGood.f (k : Nat) (x0 : Int × (List (Int × Int × Int))) : Option (Bool) := (spec_pzPeople.f x0.1).bind fun y1 => (if y1 = true then (spec_pzGood.j0 k (decide ((x0.2.length : Int) > 6)) x0.1 x0.2) else (spec_pzGood.j0 k true x0.1 x0.2))
theorem spec_pzGood.br_l : ∀ k, (∀ (x14 : Bool) (xb1_0 : Int) (xb1_1 : List (Int × Int × Int)), LeO (spec_pzGood.j0 k x14 xb1_0 xb1_1) (S.spec_pzGood.j0 x14 xb1_0 xb1_1)) ∧ (∀ (x16 : List (Int × Int × Int)) (x17 : Int) (x18 : Int) (xb1_0 : Int) (xb1_1 : List (Int × Int × Int)), LeO (spec_pzGood.l0 k x16 x17 x18 xb1_0 xb1_1) (S.spec_pzGood.l0 x16 x17 x18 xb1_0 xb1_1))
 | 0 => ⟨fun _ _ _ => LeO.none _, fun _ _ _ _ _ => LeO.none _⟩
 | k + 1 => by
  have ih := spec_pzGood.br_l k
  obtain ⟨ih_j0, ih_l0⟩ := ih
  refine ⟨fun x14 xb1_0 xb1_1 => ?_, fun x16 x17 x18 xb1_0 xb1_1 => ?_⟩
  ·refine LeO.of (S.spec_pzGood.j0.eq _ _ _) ?_
   unfold spec_pzGood.j0
   exact (LeO.ite' (fun h0 => LeO.refl _) (fun h0 => (ih_l0 _ _ _ _ _)))
  ·refine LeO.of (S.spec_pzGood.l0.eq _ _ _ _ _) ?_
   unfold spec_pzGood.l0
   exact (LeO.dec (fun h0 => (LeO.tst fun h1 => (LeO.tst fun h2 => (LeO.rdI h1 h2 (LeO.bind (spec_pzClue.f.br k _ _) (fun y3 => (LeO.nob (fun h3 => (ih_l0 _ _ _ _ _)) (fun h3 => LeO.refl _)))))))) (fun h0 => LeO.refl _))
theorem spec_pzGood.f.br (k : Nat) (x0 : Int × (List (Int × Int × Int))) : LeO (spec_pzGood.f k x0) (S.spec_pzGood.f x0) := by
 refine LeO.of (S.spec_pzGood.f.eq _) ?_
 unfold spec_pzGood.f
 have ih_j0 := (spec_pzGood.br_l k).1
 exact (LeO.bind (spec_pzPeople.f.br _) (fun y1 => (LeO.nob (fun h0 => (ih_j0 _ _ _)) (fun h0 => (ih_j0 _ _ _)))))
def spec_l1Own.f (x0 : List Int) : Option (List Int) := if x0.length < 17592186044416 then (some x0) else (none)
theorem spec_l1Own.f.br (x0 : List Int) : LeO (spec_l1Own.f x0) (S.spec_l1Own.f x0) := by
 refine LeO.of (S.spec_l1Own.f.eq _) ?_
 unfold spec_l1Own.f
 exact (LeO.tst fun h0 => (LeO.cat0 h0 (LeO.refl _)))
def spec_pzFits.f (k : Nat) (x0 : Int × Int × Int) (x1 : List Int) : Option (Bool) := if x0.1 = 6 then ((spec_agSum.f k x1).bind fun y2 => (if x0.2.2 = 0 then (none) else (some (((IntKind.i64.wrap (y2 + (IntKind.i64.wrap (x0.2.1 * (x1.length : Int))))).tmod x0.2.2) == 0)))) else ((spec_pzValue.f k x0.1 x0.2.1 x1).bind fun y7 => (some (y7 == x0.2.2)))
theorem spec_pzFits.f.br (k : Nat) (x0 : Int × Int × Int) (x1 : List Int) : LeO (spec_pzFits.f k x0 x1) (S.spec_pzFits.f x0 x1) := by
 refine LeO.of (S.spec_pzFits.f.eq _ _) ?_
 unfold spec_pzFits.f
 exact (LeO.beq (fun h0 => (LeO.bind (spec_agSum.f.br k _) (fun y2 => (LeO.ite (LeO.none _) (LeO.refl _))))) (fun h0 => (LeO.bind (spec_pzValue.f.br k _ _ _) (fun y7 => LeO.refl _))))
/-! ### spec.pzAll: all ages that fit, in a list that grows -/
def spec_pzAll.leaf (k : Nat) (b : List Int) (out : List (List Int)) : List (Int × Int × Int) → Option (List (List Int))
 | [] => if out.length < 5864062014805 then some (out ++ [b]) else none
 | c :: t => (spec_pzFits.f k c b).bind fun x => if x = true then spec_pzAll.leaf k b out t else some out
/-- The ages from 13 - n to 12, each behind b. -/
def spec_pzAll.ages (rec : List Int → List (List Int) → Option (List (List Int))) (b : List Int) : Nat → List (List Int) → Option (List (List Int))
 | 0, out => some out
 | n + 1, out => (rec (b ++ [12 - (n : Int)]) out).bind fun o => spec_pzAll.ages rec b n o
def spec_pzAll.look (k : Nat) (cl : List (Int × Int × Int)) : Nat → List Int → List (List Int) → Option (List (List Int))
 | 0, b, out => spec_pzAll.leaf k b out cl
 | n + 1, b, out => spec_pzAll.ages (spec_pzAll.look k cl n) b 12 out
def spec_pzAll.f (k : Nat) (x0 : Int) (x1 : List (Int × Int × Int)) : Option (List (List Int)) := if 0 ≤ x0 ∧ x0 ≤ 1000 ∧ x1.length ≤ 1000000 then spec_pzAll.look k x1 x0.toNat [] [] else none
theorem spec_pzAll.leaf_br (k K : Nat) (cl : List (Int × Int × Int)) (hl : cl.length ≤ 1000000) (b : List Int) (out : List (List Int)) : ∀ (t : List (Int × Int × Int)) (i : Nat), cl.drop i = t → i ≤ cl.length → LeO (spec_pzAll.leaf k b out t) (S.spec_pzLook.l1 K b cl (cl.length : Int) (i : Int) out)
 | [], i, hd, hi => by
  have hle : cl.length ≤ i := List.drop_eq_nil_iff.1 hd
  refine LeO.of (S.spec_pzLook.l1.eq _ _ _ _ _ _) ?_
  rw [if_neg (by rw [decide_eq_true_iff]; omega)]
  unfold spec_pzAll.leaf
  exact LeO.tst fun h => LeO.cat1 h (LeO.refl _)
 | c :: t, i, hd, hi => by
  have hlt : i < cl.length := by
   rcases Nat.lt_or_ge i cl.length with h | h
   ·exact h
   ·rw [List.drop_eq_nil_of_le h] at hd; cases hd
  rw [List.drop_eq_getElem_cons hlt] at hd
  injection hd with h1 h2
  refine LeO.of (S.spec_pzLook.l1.eq _ _ _ _ _ _) ?_
  rw [if_pos (by rw [decide_eq_true_iff]; omega)]
  have er : rdI cl (i : Int) = some c := by
   unfold rdI
   rw [if_pos (by omega), Int.toNat_natCast, List.getElem?_eq_getElem hlt, h1]
  rw [er, Option.bind_some]
  unfold spec_pzAll.leaf
  refine LeO.bind (spec_pzFits.f.br k c b) fun x => ?_
  have hw : IntKind.i64.wrap ((i : Int) + 1) = ((i + 1 : Nat) : Int) := by rw [Go.IntWalk.i64_left]; unfold Go.RowKit.wrap64; omega
  cases x
  ·exact LeO.refl _
  ·rw [if_pos rfl, if_neg (by decide), hw]
   exact spec_pzAll.leaf_br k K cl hl b out t (i + 1) h2 (by omega)
theorem spec_pzAll.ages_br (K : Nat) (p : Int) (cl : List (Int × Int × Int)) (b : List Int) (hb : b.length ≤ 1000) {g : List Int → List (List Int) → Option (List (List Int))} (hg : ∀ x out, LeO (g (b ++ [x]) out) (S.spec_pzLook.r K (IntKind.i64.wrap (p - 1)) cl (b ++ [x]) out)) : ∀ (n : Nat) (out : List (List Int)), n ≤ 12 → LeO (spec_pzAll.ages g b n out) (S.spec_pzLook.l0 K p cl b (13 - (n : Int)) out)
 | 0, out, _ => by
  refine LeO.of (S.spec_pzLook.l0.eq _ _ _ _ _ _) ?_
  rw [if_neg (by decide)]
  exact LeO.refl _
 | n + 1, out, hn => by
  refine LeO.of (S.spec_pzLook.l0.eq _ _ _ _ _ _) ?_
  rw [if_pos (by rw [decide_eq_true_iff]; omega)]
  have e1 : (13 : Int) - ((n + 1 : Nat) : Int) = 12 - (n : Int) := by omega
  have hw : IntKind.i64.wrap (12 - (n : Int) + 1) = 13 - (n : Int) := by rw [Go.IntWalk.i64_left]; unfold Go.RowKit.wrap64; omega
  rw [e1, hw]
  have eo : S.spec_l1Own.f b = some b := by
   rw [S.spec_l1Own.f.eq]
   unfold catI
   rw [if_pos (by rw [List.length_nil, Nat.zero_add]; exact Nat.le_trans hb (by decide)), List.nil_append]
   rfl
  have ec : catI (appMax 8) b [12 - (n : Int)] = some (b ++ [12 - (n : Int)]) := by
   unfold catI
   rw [if_pos (by rw [List.length_singleton]; exact Nat.le_trans (Nat.succ_le_succ hb) (by decide))]
  rw [eo, Option.bind_some, ec, Option.bind_some]
  unfold spec_pzAll.ages
  exact LeO.bind (hg _ _) fun o => spec_pzAll.ages_br K p cl b hb hg n o (by omega)
theorem spec_pzAll.look_br (k : Nat) (cl : List (Int × Int × Int)) (hl : cl.length ≤ 1000000) : ∀ (n K : Nat) (b : List Int) (out : List (List Int)), n + 1 ≤ K → b.length + n ≤ 1000 → LeO (spec_pzAll.look k cl n b out) (S.spec_pzLook.r K (n : Int) cl b out)
 | 0, K, b, out, hK, hb => by
  obtain ⟨K, rfl⟩ : ∃ m, K = m + 1 := ⟨K - 1, by omega⟩
  refine LeO.of (S.spec_pzLook.r.eq _ _ _ _ _) ?_
  rw [if_neg (by decide)]
  exact spec_pzAll.leaf_br k K cl hl b out cl 0 rfl (Nat.zero_le _)
 | n + 1, K, b, out, hK, hb => by
  obtain ⟨K, rfl⟩ : ∃ m, K = m + 1 := ⟨K - 1, by omega⟩
  refine LeO.of (S.spec_pzLook.r.eq _ _ _ _ _) ?_
  rw [if_pos (by rw [decide_eq_true_iff]; omega)]
  unfold spec_pzAll.look
  have hw : IntKind.i64.wrap (((n + 1 : Nat) : Int) - 1) = (n : Int) := by rw [Go.IntWalk.i64_left]; unfold Go.RowKit.wrap64; omega
  exact spec_pzAll.ages_br K ((n + 1 : Nat) : Int) cl b (by omega) (fun x o => by
   rw [hw]
   exact spec_pzAll.look_br k cl hl n K (b ++ [x]) o (by omega) (by rw [List.length_append, List.length_singleton]; omega)) 12 out (Nat.le_refl _)
theorem spec_pzAll.f.br (k : Nat) (x0 : Int) (x1 : List (Int × Int × Int)) : LeO (spec_pzAll.f k x0 x1) (S.spec_pzAll.f x0 x1) := by
 unfold spec_pzAll.f
 refine LeO.tst fun ⟨h0, h1, hl⟩ => ?_
 obtain ⟨n, rfl⟩ : ∃ n : Nat, x0 = (n : Int) := ⟨x0.toNat, by omega⟩
 rw [Int.toNat_natCast, S.spec_pzAll.f.eq]
 intro r hr
 have hlim : S.spec_pzLook_v1.f (n : Int) x1 [] = some r := by
  refine lim_eq ⟨n + 1, fun K hK => ?_⟩
  have h := spec_pzAll.look_br k x1 hl n K [] [] hK (by rw [List.length_nil]; omega) r hr
  obtain ⟨K, rfl⟩ : ∃ m, K = m + 1 := ⟨K - 1, by omega⟩
  rw [S.spec_pzLook.r.eq] at h
  rw [S.spec_pzLook_v1.r.eq]
  exact h
 rw [hlim]
 rfl
def spec_Solutions.f (k : Nat) (x0 : Int × (List (Int × Int × Int))) : Option ((List (List Int)) × Bool) := (spec_pzGood.f k (x0.1, x0.2)).bind fun y1 => (if y1 = true then ((spec_pzAll.f k x0.1 x0.2).bind fun y2 => (some (y2, true))) else (some ([], false)))
theorem spec_Solutions.f.br (k : Nat) (x0 : Int × (List (Int × Int × Int))) : LeO (spec_Solutions.f k x0) (S.spec_Solutions.f x0) := by
 refine LeO.of (S.spec_Solutions.f.eq _) ?_
 unfold spec_Solutions.f
 exact (LeO.bind (spec_pzGood.f.br k _) (fun y1 => (LeO.nob (fun h0 => (LeO.bind (spec_pzAll.f.br k _ _) (fun y2 => LeO.refl _))) (fun h0 => LeO.refl _))))
def impl_CountSolutions.f (k : Nat) (x0 : Int × (List (Int × Int × Int))) : Option (Int × Bool) := (impl_Solutions.f k (x0.1, x0.2)).bind fun y1 => (some ((y1.1.length : Int), y1.2))
theorem impl_CountSolutions.f.br (k : Nat) (x0 : Int × (List (Int × Int × Int))) : LeO (impl_CountSolutions.f k x0) (S.impl_CountSolutions.f x0) := by
 refine LeO.of (S.impl_CountSolutions.f.eq _) ?_
 unfold impl_CountSolutions.f
 exact (LeO.bind (impl_Solutions.f.br k _) (fun y1 => LeO.refl _))
def spec_CountSolutions.f (k : Nat) (x0 : Int × (List (Int × Int × Int))) : Option (Int × Bool) := (spec_pzGood.f k (x0.1, x0.2)).bind fun y1 => (if y1 = true then ((spec_pzAll.f k x0.1 x0.2).bind fun y2 => (some ((y2.length : Int), true))) else (some (0, false)))
theorem spec_CountSolutions.f.br (k : Nat) (x0 : Int × (List (Int × Int × Int))) : LeO (spec_CountSolutions.f k x0) (S.spec_CountSolutions.f x0) := by
 refine LeO.of (S.spec_CountSolutions.f.eq _) ?_
 unfold spec_CountSolutions.f
 exact (LeO.bind (spec_pzGood.f.br k _) (fun y1 => (LeO.nob (fun h0 => (LeO.bind (spec_pzAll.f.br k _ _) (fun y2 => LeO.refl _))) (fun h0 => LeO.refl _))))
def impl_FirstSolution.f (k : Nat) (x0 : Int × (List (Int × Int × Int))) : Option ((List Int) × Bool) := (impl_Solutions.f k (x0.1, x0.2)).bind fun y1 => (if y1.2 = true then (if (y1.1.length : Int) = 0 then (some ([], false)) else (if 0 < (y1.1.length : Int) then (some ((rde y1.1 0), true)) else (none))) else (some ([], false)))
theorem impl_FirstSolution.f.br (k : Nat) (x0 : Int × (List (Int × Int × Int))) : LeO (impl_FirstSolution.f k x0) (S.impl_FirstSolution.f x0) := by
 refine LeO.of (S.impl_FirstSolution.f.eq _) ?_
 unfold impl_FirstSolution.f
 exact (LeO.bind (impl_Solutions.f.br k _) (fun y1 => (LeO.nob (fun h0 => (LeO.beq (fun h1 => LeO.refl _) (fun h1 => (LeO.tst fun h3 => (LeO.rdI (by decide) h3 (LeO.refl _)))))) (fun h0 => LeO.refl _))))
def spec_FirstSolution.f (k : Nat) (x0 : Int × (List (Int × Int × Int))) : Option ((List Int) × Bool) := (spec_pzGood.f k (x0.1, x0.2)).bind fun y1 => (if y1 = true then ((spec_pzAll.f k x0.1 x0.2).bind fun y2 => (if (y2.length : Int) = 0 then (some ([], false)) else (if 0 < (y2.length : Int) then (some ((rde y2 0), true)) else (none)))) else (some ([], false)))
theorem spec_FirstSolution.f.br (k : Nat) (x0 : Int × (List (Int × Int × Int))) : LeO (spec_FirstSolution.f k x0) (S.spec_FirstSolution.f x0) := by
 refine LeO.of (S.spec_FirstSolution.f.eq _) ?_
 unfold spec_FirstSolution.f
 exact (LeO.bind (spec_pzGood.f.br k _) (fun y1 => (LeO.nob (fun h0 => (LeO.bind (spec_pzAll.f.br k _ _) (fun y2 => (LeO.beq (fun h1 => LeO.refl _) (fun h1 => (LeO.tst fun h3 => (LeO.rdI (by decide) h3 (LeO.refl _)))))))) (fun h0 => LeO.refl _))))
mutual
def impl_SureAges.j0 : Nat → List (List Int) → Bool → Option ((List Int) × Bool)
 | 0, _, _ => none
 | k + 1, x4, x22 => if x22 = true then (some ([], false)) else (if 0 < (x4.length : Int) then ((slices_Clone.f (rde x4 0)).bind fun y2 => (impl_SureAges.l0 k y2 x4 (x4.length : Int) 0)) else (none))
def impl_SureAges.l0 : Nat → List Int → List (List Int) → Int → Int → Option ((List Int) × Bool)
 | 0, _, _, _, _ => none
 | k + 1, x6, x4, x28, x29 => if x29 < x28 then (if 0 ≤ x29 then (if x29 < (x4.length : Int) then (impl_SureAges.l1 k x6 x4 x28 x29 (rde x4 x29) ((rde x4 x29).length : Int) 0) else (none)) else (none)) else (some (x6, true))
def impl_SureAges.l1 : Nat → List Int → List (List Int) → Int → Int → List Int → Int → Int → Option ((List Int) × Bool)
 | 0, _, _, _, _, _, _, _ => none
 | k + 1, x6, x4, x28, x29, x33, x34, x35 => if x35 < x34 then (if 0 ≤ x35 then (if x35 < (x33.length : Int) then (if x35 < (x6.length : Int) then (if (rde x33 x35) = (rde x6 x35) then (impl_SureAges.l1 k x6 x4 x28 x29 x33 x34 (IntKind.i64.wrap (x35 + 1))) else (impl_SureAges.l1 k (x6.set x35.toNat (-1)) x4 x28 x29 x33 x34 (IntKind.i64.wrap (x35 + 1)))) else (none)) else (none)) else (none)) else (impl_SureAges.l0 k x6 x4 x28 (IntKind.i64.wrap (x29 + 1)))
end
def impl_SureAges.f (k : Nat) (x0 : Int × (List (Int × Int × Int))) : Option ((List Int) × Bool) := (impl_Solutions.f k (x0.1, x0.2)).bind fun y1 => (if y1.2 = true then (impl_SureAges.j0 k y1.1 ((y1.1.length : Int) == 0)) else (impl_SureAges.j0 k y1.1 true))
theorem impl_SureAges.br_l : ∀ k, (∀ (x4 : List (List Int)) (x22 : Bool), LeO (impl_SureAges.j0 k x4 x22) (S.impl_SureAges.j0 x4 x22)) ∧ (∀ (x4 : List (List Int)) (x6 : List Int) (x28 : Int) (x29 : Int), LeO (impl_SureAges.l0 k x6 x4 x28 x29) (S.impl_SureAges.l0 x4 x6 x28 x29)) ∧ (∀ (x4 : List (List Int)) (x6 : List Int) (x28 : Int) (x29 : Int) (x33 : List Int) (x34 : Int) (x35 : Int), LeO (impl_SureAges.l1 k x6 x4 x28 x29 x33 x34 x35) (S.impl_SureAges.l1 x4 x6 x28 x29 x33 x34 x35))
 | 0 => ⟨fun _ _ => LeO.none _, fun _ _ _ _ => LeO.none _, fun _ _ _ _ _ _ _ => LeO.none _⟩
 | k + 1 => by
  have ih := impl_SureAges.br_l k
  obtain ⟨ih_j0, ih_l0, ih_l1⟩ := ih
  refine ⟨fun x4 x22 => ?_, fun x4 x6 x28 x29 => ?_, fun x4 x6 x28 x29 x33 x34 x35 => ?_⟩
  ·refine LeO.of (S.impl_SureAges.j0.eq _ _) ?_
   unfold impl_SureAges.j0
   exact (LeO.ite' (fun h0 => LeO.refl _) (fun h0 => (LeO.tst fun h2 => (LeO.rdI (by decide) h2 (LeO.bind (slices_Clone.f.br _) (fun y2 => (ih_l0 _ _ _ _)))))))
  ·refine LeO.of (S.impl_SureAges.l0.eq _ _ _ _) ?_
   unfold impl_SureAges.l0
   exact (LeO.dec (fun h0 => (LeO.tst fun h1 => (LeO.tst fun h2 => (LeO.rdI h1 h2 (ih_l1 _ _ _ _ _ _ _))))) (fun h0 => LeO.refl _))
  ·refine LeO.of (S.impl_SureAges.l1.eq _ _ _ _ _ _ _) ?_
   unfold impl_SureAges.l1
   exact (LeO.dec (fun h0 => (LeO.tst fun h1 => (LeO.tst fun h2 => (LeO.rdI h1 h2 (LeO.tst fun h3 => (LeO.rdI h1 h3 (LeO.bne (fun h4 => (ih_l1 _ _ _ _ _ _ _)) (fun h4 => (LeO.rdI h1 h3 (ih_l1 _ _ _ _ _ _ _)))))))))) (fun h0 => (ih_l0 _ _ _ _)))
theorem impl_SureAges.f.br (k : Nat) (x0 : Int × (List (Int × Int × Int))) : LeO (impl_SureAges.f k x0) (S.impl_SureAges.f x0) := by
 refine LeO.of (S.impl_SureAges.f.eq _) ?_
 unfold impl_SureAges.f
 have ih_j0 := (impl_SureAges.br_l k).1
 exact (LeO.bind (impl_Solutions.f.br k _) (fun y1 => (LeO.nob (fun h0 => (ih_j0 _ _)) (fun h0 => (ih_j0 _ _)))))
mutual
def spec_SureAges.l0 : Nat → List Int → List (List Int) → Int → Int → Option ((List Int) × Bool)
 | 0, _, _, _, _ => none
 | k + 1, x5, x4, x25, x26 => if x26 < x25 then (if 0 ≤ x26 then (if x26 < (x4.length : Int) then (spec_SureAges.l1 k x5 (rde x4 x26) x4 x25 x26 (x5.length : Int) 0) else (none)) else (none)) else (some (x5, true))
def spec_SureAges.l1 : Nat → List Int → List Int → List (List Int) → Int → Int → Int → Int → Option ((List Int) × Bool)
 | 0, _, _, _, _, _, _, _ => none
 | k + 1, x5, x7, x4, x25, x26, x31, x32 => if x32 < x31 then (if 0 ≤ x32 then (if x32 < (x7.length : Int) then (if x32 < (x5.length : Int) then (if (rde x7 x32) = (rde x5 x32) then (spec_SureAges.l1 k x5 x7 x4 x25 x26 x31 (IntKind.i64.wrap (x32 + 1))) else (spec_SureAges.l1 k (x5.set x32.toNat (-1)) x7 x4 x25 x26 x31 (IntKind.i64.wrap (x32 + 1)))) else (none)) else (none)) else (none)) else (spec_SureAges.l0 k x5 x4 x25 (IntKind.i64.wrap (x26 + 1)))
end
def spec_SureAges.f (k : Nat) (x0 : Int × (List (Int × Int × Int))) : Option ((List Int) × Bool) := (spec_pzGood.f k (x0.1, x0.2)).bind fun y1 => (if y1 = true then ((spec_pzAll.f k x0.1 x0.2).bind fun y2 => (if (y2.length : Int) = 0 then (some ([], false)) else (if 0 < (y2.length : Int) then ((spec_l1Own.f (rde y2 0)).bind fun y5 => (spec_SureAges.l0 k y5 y2 (y2.length : Int) 0)) else (none)))) else (some ([], false)))
theorem spec_SureAges.br_l : ∀ k, (∀ (x4 : List (List Int)) (x5 : List Int) (x25 : Int) (x26 : Int), LeO (spec_SureAges.l0 k x5 x4 x25 x26) (S.spec_SureAges.l0 x4 x5 x25 x26)) ∧ (∀ (x4 : List (List Int)) (x5 : List Int) (x7 : List Int) (x25 : Int) (x26 : Int) (x31 : Int) (x32 : Int), LeO (spec_SureAges.l1 k x5 x7 x4 x25 x26 x31 x32) (S.spec_SureAges.l1 x4 x5 x7 x25 x26 x31 x32))
 | 0 => ⟨fun _ _ _ _ => LeO.none _, fun _ _ _ _ _ _ _ => LeO.none _⟩
 | k + 1 => by
  have ih := spec_SureAges.br_l k
  obtain ⟨ih_l0, ih_l1⟩ := ih
  refine ⟨fun x4 x5 x25 x26 => ?_, fun x4 x5 x7 x25 x26 x31 x32 => ?_⟩
  ·refine LeO.of (S.spec_SureAges.l0.eq _ _ _ _) ?_
   unfold spec_SureAges.l0
   exact (LeO.dec (fun h0 => (LeO.tst fun h1 => (LeO.tst fun h2 => (LeO.rdI h1 h2 (ih_l1 _ _ _ _ _ _ _))))) (fun h0 => LeO.refl _))
  ·refine LeO.of (S.spec_SureAges.l1.eq _ _ _ _ _ _ _) ?_
   unfold spec_SureAges.l1
   exact (LeO.dec (fun h0 => (LeO.tst fun h1 => (LeO.tst fun h2 => (LeO.rdI h1 h2 (LeO.tst fun h3 => (LeO.rdI h1 h3 (LeO.bne (fun h4 => (ih_l1 _ _ _ _ _ _ _)) (fun h4 => (LeO.rdI h1 h3 (ih_l1 _ _ _ _ _ _ _)))))))))) (fun h0 => (ih_l0 _ _ _ _)))
theorem spec_SureAges.f.br (k : Nat) (x0 : Int × (List (Int × Int × Int))) : LeO (spec_SureAges.f k x0) (S.spec_SureAges.f x0) := by
 refine LeO.of (S.spec_SureAges.f.eq _) ?_
 unfold spec_SureAges.f
 have ih_l0 := (spec_SureAges.br_l k).1
 exact (LeO.bind (spec_pzGood.f.br k _) (fun y1 => (LeO.nob (fun h0 => (LeO.bind (spec_pzAll.f.br k _ _) (fun y2 => (LeO.beq (fun h1 => LeO.refl _) (fun h1 => (LeO.tst fun h3 => (LeO.rdI (by decide) h3 (LeO.bind (spec_l1Own.f.br _) (fun y5 => (ih_l0 _ _ _ _)))))))))) (fun h0 => LeO.refl _))))
def impl_IsSolved.f (k : Nat) (x0 : Int × (List (Int × Int × Int))) : Option (Bool × Bool) := (impl_CountSolutions.f k (x0.1, x0.2)).bind fun y1 => (if y1.2 = true then (some ((y1.1 == 1), y1.2)) else (some (false, y1.2)))
theorem impl_IsSolved.f.br (k : Nat) (x0 : Int × (List (Int × Int × Int))) : LeO (impl_IsSolved.f k x0) (S.impl_IsSolved.f x0) := by
 refine LeO.of (S.impl_IsSolved.f.eq _) ?_
 unfold impl_IsSolved.f
 exact (LeO.bind (impl_CountSolutions.f.br k _) (fun y1 => (LeO.ite' (fun h0 => LeO.refl _) (fun h0 => LeO.refl _))))
def spec_pzSolved.f (k : Nat) (x0 : Int) (x1 : List (Int × Int × Int)) : Option (Bool) := (spec_pzAll.f k x0 x1).bind fun y1 => (some ((y1.length : Int) == 1))
theorem spec_pzSolved.f.br (k : Nat) (x0 : Int) (x1 : List (Int × Int × Int)) : LeO (spec_pzSolved.f k x0 x1) (S.spec_pzSolved.f x0 x1) := by
 refine LeO.of (S.spec_pzSolved.f.eq _ _) ?_
 unfold spec_pzSolved.f
 exact (LeO.bind (spec_pzAll.f.br k _ _) (fun y1 => LeO.refl _))
def spec_IsSolved.f (k : Nat) (x0 : Int × (List (Int × Int × Int))) : Option (Bool × Bool) := (spec_pzGood.f k (x0.1, x0.2)).bind fun y1 => (if y1 = true then ((spec_pzSolved.f k x0.1 x0.2).bind fun y2 => (some (y2, true))) else (some (false, false)))
theorem spec_IsSolved.f.br (k : Nat) (x0 : Int × (List (Int × Int × Int))) : LeO (spec_IsSolved.f k x0) (S.spec_IsSolved.f x0) := by
 refine LeO.of (S.spec_IsSolved.f.eq _) ?_
 unfold spec_IsSolved.f
 exact (LeO.bind (spec_pzGood.f.br k _) (fun y1 => (LeO.nob (fun h0 => (LeO.bind (spec_pzSolved.f.br k _ _) (fun y2 => LeO.refl _))) (fun h0 => LeO.refl _))))
def slices_Clone_72.f (x0 : List (Int × Int × Int)) : Option (List (Int × Int × Int)) := if x0.length ≤ 5864062014805 then some x0 else none
theorem slices_Clone_72.f.br (x0 : List (Int × Int × Int)) : LeO (slices_Clone_72.f x0) (S.slices_Clone_72.f x0) := by
 refine LeO.of (S.slices_Clone_72.f.eq _) ?_
 unfold slices_Clone_72.f
 intro r h
 split at h
 ·rename_i hl
  obtain rfl := Option.some.inj h
  cases x0 with
  | nil => simp [nilT, both, catI]
  | cons a t =>
   have e : catI (appMax 24) [] (a :: t) = some (a :: t) := by
    unfold catI
    rw [if_pos (by rw [List.length_nil, Nat.zero_add]; exact hl), List.nil_append]
   simp only [nilT, e, Option.bind_some]
 ·cases h
def impl_NeedlessClues.l0 : Nat → List (List Int) → List Int → Int → Int → Int → (List (Int × Int × Int)) → Option ((List Int) × Bool)
 | 0, _, _, _, _, _, _ => none
 | k + 1, x4, x6, x18, x19, xb1_0, xb1_1 => if x19 < x18 then ((S.impl_without.f xb1_1 x19).bind fun y2 => ((impl_solutions.f k xb1_0 y2).bind fun y3 => (if (y3.length : Int) = (x4.length : Int) then (if x6.length < 17592186044416 then (impl_NeedlessClues.l0 k x4 (x6 ++ [x19]) x18 (IntKind.i64.wrap (x19 + 1)) xb1_0 xb1_1) else (none)) else (impl_NeedlessClues.l0 k x4 x6 x18 (IntKind.i64.wrap (x19 + 1)) xb1_0 xb1_1)))) else (some (x6, true))
def impl_NeedlessClues.f (k : Nat) (x0 : Int × (List (Int × Int × Int))) : Option ((List Int) × Bool) := (impl_Solutions.f k (x0.1, x0.2)).bind fun y1 => (if y1.2 = true then (impl_NeedlessClues.l0 k y1.1 [] (x0.2.length : Int) 0 x0.1 x0.2) else (some ([], false)))
theorem impl_NeedlessClues.br_l : ∀ k, (∀ (x4 : List (List Int)) (x6 : List Int) (x18 : Int) (x19 : Int) (xb1_0 : Int) (xb1_1 : List (Int × Int × Int)), LeO (impl_NeedlessClues.l0 k x4 x6 x18 x19 xb1_0 xb1_1) (S.impl_NeedlessClues.l0 x4 x6 x18 x19 xb1_0 xb1_1))
 | 0 => fun _ _ _ _ _ _ => LeO.none _
 | k + 1 => by
  have ih := impl_NeedlessClues.br_l k
  have ih_l0 := ih
  refine fun x4 x6 x18 x19 xb1_0 xb1_1 => ?_
  ·refine LeO.of (S.impl_NeedlessClues.l0.eq _ _ _ _ _ _) ?_
   show LeO (impl_NeedlessClues.l0 (k + 1) x4 x6 x18 x19 xb1_0 xb1_1) _
   unfold impl_NeedlessClues.l0
   exact (LeO.dec (fun h0 => (LeO.bind (LeO.refl _) (fun y2 => (LeO.bind (impl_solutions.f.br k _ _) (fun y3 => (LeO.beq (fun h1 => (LeO.tst fun h2 => (LeO.cat1 h2 (ih_l0 _ _ _ _ _ _)))) (fun h1 => (ih_l0 _ _ _ _ _ _)))))))) (fun h0 => LeO.refl _))
theorem impl_NeedlessClues.f.br (k : Nat) (x0 : Int × (List (Int × Int × Int))) : LeO (impl_NeedlessClues.f k x0) (S.impl_NeedlessClues.f x0) := by
 refine LeO.of (S.impl_NeedlessClues.f.eq _) ?_
 unfold impl_NeedlessClues.f
 have ih_l0 := (impl_NeedlessClues.br_l k)
 exact (LeO.bind (impl_Solutions.f.br k _) (fun y1 => (LeO.nob (fun h0 => (ih_l0 _ _ _ _ _ _)) (fun h0 => LeO.refl _))))
def spec_pzWithout.f (x0 : List (Int × Int × Int)) (x1 : Int) : Option (List (Int × Int × Int)) := if 0 ≤ x1 then (if x1 ≤ (x0.length : Int) then (if (x0.take x1.toNat).length < 5864062014805 then (if 0 ≤ (IntKind.i64.wrap (x1 + 1)) then (if (IntKind.i64.wrap (x1 + 1)) ≤ (x0.length : Int) then (if (x0.take x1.toNat).length + (x0.drop (IntKind.i64.wrap (x1 + 1)).toNat).length < 5864062014805 then (some ((x0.take x1.toNat) ++ (x0.drop (IntKind.i64.wrap (x1 + 1)).toNat))) else (none)) else (none)) else (none)) else (none)) else (none)) else (none)
theorem spec_pzWithout.f.br (x0 : List (Int × Int × Int)) (x1 : Int) : LeO (spec_pzWithout.f x0 x1) (S.spec_pzWithout.f x0 x1) := by
 refine LeO.of (S.spec_pzWithout.f.eq _ _) ?_
 unfold spec_pzWithout.f
 exact (LeO.tst fun h1 => (LeO.tst fun h2 => (LeO.sub0 h1 h2 (LeO.tst fun h3 => (LeO.cat0 h3 (LeO.tst fun h4 => (LeO.tst fun h5 => (LeO.subE h4 h5 (LeO.tst fun h6 => (LeO.cat h6 (LeO.refl _)))))))))))
def spec_NeedlessClues.l0 : Nat → List Int → Int → Int → Int → Int → (List (Int × Int × Int)) → Option ((List Int) × Bool)
 | 0, _, _, _, _, _, _ => none
 | k + 1, x4, x5, x18, x19, xb1_0, xb1_1 => if x19 < x18 then ((spec_pzWithout.f xb1_1 x19).bind fun y2 => ((spec_pzAll.f k xb1_0 y2).bind fun y3 => (if (y3.length : Int) = x5 then (if x4.length < 17592186044416 then (spec_NeedlessClues.l0 k (x4 ++ [x19]) x5 x18 (IntKind.i64.wrap (x19 + 1)) xb1_0 xb1_1) else (none)) else (spec_NeedlessClues.l0 k x4 x5 x18 (IntKind.i64.wrap (x19 + 1)) xb1_0 xb1_1)))) else (some (x4, true))
def spec_NeedlessClues.f (k : Nat) (x0 : Int × (List (Int × Int × Int))) : Option ((List Int) × Bool) := (spec_pzGood.f k (x0.1, x0.2)).bind fun y1 => (if y1 = true then ((spec_pzAll.f k x0.1 x0.2).bind fun y2 => (spec_NeedlessClues.l0 k [] (y2.length : Int) (x0.2.length : Int) 0 x0.1 x0.2)) else (some ([], false)))
theorem spec_NeedlessClues.br_l : ∀ k, (∀ (x4 : List Int) (x5 : Int) (x18 : Int) (x19 : Int) (xb1_0 : Int) (xb1_1 : List (Int × Int × Int)), LeO (spec_NeedlessClues.l0 k x4 x5 x18 x19 xb1_0 xb1_1) (S.spec_NeedlessClues.l0 x4 x5 x18 x19 xb1_0 xb1_1))
 | 0 => fun _ _ _ _ _ _ => LeO.none _
 | k + 1 => by
  have ih := spec_NeedlessClues.br_l k
  have ih_l0 := ih
  refine fun x4 x5 x18 x19 xb1_0 xb1_1 => ?_
  ·refine LeO.of (S.spec_NeedlessClues.l0.eq _ _ _ _ _ _) ?_
   show LeO (spec_NeedlessClues.l0 (k + 1) x4 x5 x18 x19 xb1_0 xb1_1) _
   unfold spec_NeedlessClues.l0
   exact (LeO.dec (fun h0 => (LeO.bind (spec_pzWithout.f.br _ _) (fun y2 => (LeO.bind (spec_pzAll.f.br k _ _) (fun y3 => (LeO.beq (fun h1 => (LeO.tst fun h2 => (LeO.cat1 h2 (ih_l0 _ _ _ _ _ _)))) (fun h1 => (ih_l0 _ _ _ _ _ _)))))))) (fun h0 => LeO.refl _))
theorem spec_NeedlessClues.f.br (k : Nat) (x0 : Int × (List (Int × Int × Int))) : LeO (spec_NeedlessClues.f k x0) (S.spec_NeedlessClues.f x0) := by
 refine LeO.of (S.spec_NeedlessClues.f.eq _) ?_
 unfold spec_NeedlessClues.f
 have ih_l0 := (spec_NeedlessClues.br_l k)
 exact (LeO.bind (spec_pzGood.f.br k _) (fun y1 => (LeO.nob (fun h0 => (LeO.bind (spec_pzAll.f.br k _ _) (fun y2 => (ih_l0 _ _ _ _ _ _)))) (fun h0 => LeO.refl _))))
def impl_LeftByClues.l0 : Nat → List Int → Int → Int → Int → (List (Int × Int × Int)) → Option ((List Int) × Bool)
 | 0, _, _, _, _, _ => none
 | k + 1, x4, x13, x14, xb1_0, xb1_1 => if x14 < x13 then (if 0 ≤ x14 then (if x14 ≤ (xb1_1.length : Int) then ((impl_solutions.f k xb1_0 (xb1_1.take x14.toNat)).bind fun y3 => (if x4.length < 17592186044416 then (impl_LeftByClues.l0 k (x4 ++ [(y3.length : Int)]) x13 (IntKind.i64.wrap (x14 + 1)) xb1_0 xb1_1) else (none))) else (none)) else (none)) else (some (x4, true))
def impl_LeftByClues.f (k : Nat) (x0 : Int × (List (Int × Int × Int))) : Option ((List Int) × Bool) := (impl_IsPuzzle.f k (x0.1, x0.2)).bind fun y1 => (if y1 = true then (impl_LeftByClues.l0 k [] (IntKind.i64.wrap ((x0.2.length : Int) + 1)) 0 x0.1 x0.2) else (some ([], false)))
theorem impl_LeftByClues.br_l : ∀ k, (∀ (x4 : List Int) (x13 : Int) (x14 : Int) (xb1_0 : Int) (xb1_1 : List (Int × Int × Int)), LeO (impl_LeftByClues.l0 k x4 x13 x14 xb1_0 xb1_1) (S.impl_LeftByClues.l0 x4 x13 x14 xb1_0 xb1_1))
 | 0 => fun _ _ _ _ _ => LeO.none _
 | k + 1 => by
  have ih := impl_LeftByClues.br_l k
  have ih_l0 := ih
  refine fun x4 x13 x14 xb1_0 xb1_1 => ?_
  ·refine LeO.of (S.impl_LeftByClues.l0.eq _ _ _ _ _) ?_
   show LeO (impl_LeftByClues.l0 (k + 1) x4 x13 x14 xb1_0 xb1_1) _
   unfold impl_LeftByClues.l0
   exact (LeO.dec (fun h0 => (LeO.tst fun h2 => (LeO.tst fun h3 => (LeO.sub0 h2 h3 (LeO.bind (impl_solutions.f.br k _ _) (fun y3 => (LeO.tst fun h4 => (LeO.cat1 h4 (ih_l0 _ _ _ _ _))))))))) (fun h0 => LeO.refl _))
theorem impl_LeftByClues.f.br (k : Nat) (x0 : Int × (List (Int × Int × Int))) : LeO (impl_LeftByClues.f k x0) (S.impl_LeftByClues.f x0) := by
 refine LeO.of (S.impl_LeftByClues.f.eq _) ?_
 unfold impl_LeftByClues.f
 have ih_l0 := (impl_LeftByClues.br_l k)
 exact (LeO.bind (impl_IsPuzzle.f.br k _) (fun y1 => (LeO.nob (fun h0 => (ih_l0 _ _ _ _ _)) (fun h0 => LeO.refl _))))
def spec_LeftByClues.l0 : Nat → List Int → Int → Int → (List (Int × Int × Int)) → Option ((List Int) × Bool)
 | 0, _, _, _, _ => none
 | k + 1, x4, x5, xb1_0, xb1_1 => if x5 ≤ (xb1_1.length : Int) then (if 0 ≤ x5 then ((spec_pzAll.f k xb1_0 (xb1_1.take x5.toNat)).bind fun y4 => (if x4.length < 17592186044416 then (spec_LeftByClues.l0 k (x4 ++ [(y4.length : Int)]) (IntKind.i64.wrap (x5 + 1)) xb1_0 xb1_1) else (none))) else (none)) else (some (x4, true))
def spec_LeftByClues.f (k : Nat) (x0 : Int × (List (Int × Int × Int))) : Option ((List Int) × Bool) := (spec_pzGood.f k (x0.1, x0.2)).bind fun y1 => (if y1 = true then (spec_LeftByClues.l0 k [] 0 x0.1 x0.2) else (some ([], false)))
theorem spec_LeftByClues.br_l : ∀ k, (∀ (x4 : List Int) (x5 : Int) (xb1_0 : Int) (xb1_1 : List (Int × Int × Int)), LeO (spec_LeftByClues.l0 k x4 x5 xb1_0 xb1_1) (S.spec_LeftByClues.l0 x4 x5 xb1_0 xb1_1))
 | 0 => fun _ _ _ _ => LeO.none _
 | k + 1 => by
  have ih := spec_LeftByClues.br_l k
  have ih_l0 := ih
  refine fun x4 x5 xb1_0 xb1_1 => ?_
  ·refine LeO.of (S.spec_LeftByClues.l0.eq _ _ _ _) ?_
   show LeO (spec_LeftByClues.l0 (k + 1) x4 x5 xb1_0 xb1_1) _
   unfold spec_LeftByClues.l0
   exact (LeO.dec (fun h0 => (LeO.tst fun h2 => (LeO.sub0 h2 h0 (LeO.bind (spec_pzAll.f.br k _ _) (fun y4 => (LeO.tst fun h3 => (LeO.cat1 h3 (ih_l0 _ _ _ _)))))))) (fun h0 => LeO.refl _))
theorem spec_LeftByClues.f.br (k : Nat) (x0 : Int × (List (Int × Int × Int))) : LeO (spec_LeftByClues.f k x0) (S.spec_LeftByClues.f x0) := by
 refine LeO.of (S.spec_LeftByClues.f.eq _) ?_
 unfold spec_LeftByClues.f
 have ih_l0 := (spec_LeftByClues.br_l k)
 exact (LeO.bind (spec_pzGood.f.br k _) (fun y1 => (LeO.nob (fun h0 => (ih_l0 _ _ _ _)) (fun h0 => LeO.refl _))))
mutual
def impl_BestClue.j0 : Nat → Bool → Int → (List (Int × Int × Int)) → Option (Int × Bool)
 | 0, _, _, _ => none
 | k + 1, x17, xb1_0, xb1_1 => if x17 = true then (some (0, false)) else (impl_BestClue.l0 k 0 (-1) xb1_1 (xb1_1.length : Int) 0 xb1_0 xb1_1)
def impl_BestClue.l0 : Nat → Int → Int → (List (Int × Int × Int)) → Int → Int → Int → (List (Int × Int × Int)) → Option (Int × Bool)
 | 0, _, _, _, _, _, _, _ => none
 | k + 1, x4, x5, x19, x20, x21, xb1_0, xb1_1 => if x21 < x20 then (if 0 ≤ x21 then (if x21 < (x19.length : Int) then ((impl_solutions.f k xb1_0 [((rde x19 x21).1, (rde x19 x21).2.1, (rde x19 x21).2.2)]).bind fun y3 => (if x5 < 0 then (impl_BestClue.l0 k x21 (y3.length : Int) x19 x20 (IntKind.i64.wrap (x21 + 1)) xb1_0 xb1_1) else (if (y3.length : Int) < x5 then (impl_BestClue.l0 k x21 (y3.length : Int) x19 x20 (IntKind.i64.wrap (x21 + 1)) xb1_0 xb1_1) else (impl_BestClue.l0 k x4 x5 x19 x20 (IntKind.i64.wrap (x21 + 1)) xb1_0 xb1_1)))) else (none)) else (none)) else (some (x4, true))
end
def impl_BestClue.f (k : Nat) (x0 : Int × (List (Int × Int × Int))) : Option (Int × Bool) := (impl_IsPuzzle.f k (x0.1, x0.2)).bind fun y1 => (if y1 = true then (impl_BestClue.j0 k ((x0.2.length : Int) == 0) x0.1 x0.2) else (impl_BestClue.j0 k true x0.1 x0.2))
theorem impl_BestClue.br_l : ∀ k, (∀ (x17 : Bool) (xb1_0 : Int) (xb1_1 : List (Int × Int × Int)), LeO (impl_BestClue.j0 k x17 xb1_0 xb1_1) (S.impl_BestClue.j0 x17 xb1_0 xb1_1)) ∧ (∀ (x4 : Int) (x5 : Int) (x19 : List (Int × Int × Int)) (x20 : Int) (x21 : Int) (xb1_0 : Int) (xb1_1 : List (Int × Int × Int)), LeO (impl_BestClue.l0 k x4 x5 x19 x20 x21 xb1_0 xb1_1) (S.impl_BestClue.l0 x4 x5 x19 x20 x21 xb1_0 xb1_1))
 | 0 => ⟨fun _ _ _ => LeO.none _, fun _ _ _ _ _ _ _ => LeO.none _⟩
 | k + 1 => by
  have ih := impl_BestClue.br_l k
  obtain ⟨ih_j0, ih_l0⟩ := ih
  refine ⟨fun x17 xb1_0 xb1_1 => ?_, fun x4 x5 x19 x20 x21 xb1_0 xb1_1 => ?_⟩
  ·refine LeO.of (S.impl_BestClue.j0.eq _ _ _) ?_
   unfold impl_BestClue.j0
   exact (LeO.ite' (fun h0 => LeO.refl _) (fun h0 => (ih_l0 _ _ _ _ _ _ _)))
  ·refine LeO.of (S.impl_BestClue.l0.eq _ _ _ _ _ _ _) ?_
   unfold impl_BestClue.l0
   exact (LeO.dec (fun h0 => (LeO.tst fun h1 => (LeO.tst fun h2 => (LeO.rdI h1 h2 (LeO.bind (impl_solutions.f.br k _ _) (fun y3 => (LeO.dec (fun h3 => (ih_l0 _ _ _ _ _ _ _)) (fun h3 => (LeO.dec (fun h4 => (ih_l0 _ _ _ _ _ _ _)) (fun h4 => (ih_l0 _ _ _ _ _ _ _))))))))))) (fun h0 => LeO.refl _))
theorem impl_BestClue.f.br (k : Nat) (x0 : Int × (List (Int × Int × Int))) : LeO (impl_BestClue.f k x0) (S.impl_BestClue.f x0) := by
 refine LeO.of (S.impl_BestClue.f.eq _) ?_
 unfold impl_BestClue.f
 have ih_j0 := (impl_BestClue.br_l k).1
 exact (LeO.bind (impl_IsPuzzle.f.br k _) (fun y1 => (LeO.nob (fun h0 => (ih_j0 _ _ _)) (fun h0 => (ih_j0 _ _ _)))))
mutual
def spec_BestClue.j0 : Nat → Bool → Int → (List (Int × Int × Int)) → Option (Int × Bool)
 | 0, _, _, _ => none
 | k + 1, x16, xb1_0, xb1_1 => if x16 = true then (some (0, false)) else (spec_BestClue.l0 k 0 0 (xb1_1.length : Int) 0 xb1_0 xb1_1)
def spec_BestClue.l0 : Nat → Int → Int → Int → Int → Int → (List (Int × Int × Int)) → Option (Int × Bool)
 | 0, _, _, _, _, _, _ => none
 | k + 1, x4, x5, x19, x20, xb1_0, xb1_1 => if x20 < x19 then (if 0 ≤ x20 then (if x20 ≤ (IntKind.i64.wrap (x20 + 1)) then (if (IntKind.i64.wrap (x20 + 1)) ≤ (xb1_1.length : Int) then ((spec_pzAll.f k xb1_0 ((xb1_1.take (IntKind.i64.wrap (x20 + 1)).toNat).drop x20.toNat)).bind fun y4 => (if x20 = 0 then (spec_BestClue.l0 k x20 (y4.length : Int) x19 (IntKind.i64.wrap (x20 + 1)) xb1_0 xb1_1) else (if (y4.length : Int) < x5 then (spec_BestClue.l0 k x20 (y4.length : Int) x19 (IntKind.i64.wrap (x20 + 1)) xb1_0 xb1_1) else (spec_BestClue.l0 k x4 x5 x19 (IntKind.i64.wrap (x20 + 1)) xb1_0 xb1_1)))) else (none)) else (none)) else (none)) else (some (x4, true))
end
def spec_BestClue.f (k : Nat) (x0 : Int × (List (Int × Int × Int))) : Option (Int × Bool) := (spec_pzGood.f k (x0.1, x0.2)).bind fun y1 => (if y1 = true then (spec_BestClue.j0 k ((x0.2.length : Int) == 0) x0.1 x0.2) else (spec_BestClue.j0 k true x0.1 x0.2))
theorem spec_BestClue.br_l : ∀ k, (∀ (x16 : Bool) (xb1_0 : Int) (xb1_1 : List (Int × Int × Int)), LeO (spec_BestClue.j0 k x16 xb1_0 xb1_1) (S.spec_BestClue.j0 x16 xb1_0 xb1_1)) ∧ (∀ (x4 : Int) (x5 : Int) (x19 : Int) (x20 : Int) (xb1_0 : Int) (xb1_1 : List (Int × Int × Int)), LeO (spec_BestClue.l0 k x4 x5 x19 x20 xb1_0 xb1_1) (S.spec_BestClue.l0 x4 x5 x19 x20 xb1_0 xb1_1))
 | 0 => ⟨fun _ _ _ => LeO.none _, fun _ _ _ _ _ _ => LeO.none _⟩
 | k + 1 => by
  have ih := spec_BestClue.br_l k
  obtain ⟨ih_j0, ih_l0⟩ := ih
  refine ⟨fun x16 xb1_0 xb1_1 => ?_, fun x4 x5 x19 x20 xb1_0 xb1_1 => ?_⟩
  ·refine LeO.of (S.spec_BestClue.j0.eq _ _ _) ?_
   unfold spec_BestClue.j0
   exact (LeO.ite' (fun h0 => LeO.refl _) (fun h0 => (ih_l0 _ _ _ _ _ _)))
  ·refine LeO.of (S.spec_BestClue.l0.eq _ _ _ _ _ _) ?_
   unfold spec_BestClue.l0
   exact (LeO.dec (fun h0 => (LeO.tst fun h1 => (LeO.tst fun h2 => (LeO.tst fun h3 => (LeO.subI h1 h2 h3 (LeO.bind (spec_pzAll.f.br k _ _) (fun y4 => (LeO.beq (fun h4 => (ih_l0 _ _ _ _ _ _)) (fun h4 => (LeO.dec (fun h5 => (ih_l0 _ _ _ _ _ _)) (fun h5 => (ih_l0 _ _ _ _ _ _)))))))))))) (fun h0 => LeO.refl _))
theorem spec_BestClue.f.br (k : Nat) (x0 : Int × (List (Int × Int × Int))) : LeO (spec_BestClue.f k x0) (S.spec_BestClue.f x0) := by
 refine LeO.of (S.spec_BestClue.f.eq _) ?_
 unfold spec_BestClue.f
 have ih_j0 := (spec_BestClue.br_l k).1
 exact (LeO.bind (spec_pzGood.f.br k _) (fun y1 => (LeO.nob (fun h0 => (ih_j0 _ _ _)) (fun h0 => (ih_j0 _ _ _)))))
def impl_joined.l0 : Nat → List UInt8 → List (List UInt8) → List Int → Int → Int → Option (List UInt8)
 | 0, _, _, _, _, _ => none
 | k + 1, x1, x5, x9, x10, x11 => if x11 < x10 then (if 0 ≤ x11 then (if x11 < (x9.length : Int) then ((S.strconv_Itoa.f (rde x9 x11)).bind fun y3 => (if x5.length < 8796093022208 then (impl_joined.l0 k x1 (x5 ++ [y3]) x9 x10 (IntKind.i64.wrap (x11 + 1))) else (none))) else (none)) else (none)) else ((S.strings_Join.f x5 x1).bind fun y6 => (some y6))
def impl_joined.f (k : Nat) (x0 : List Int) (x1 : List UInt8) : Option (List UInt8) := impl_joined.l0 k x1 [] x0 (x0.length : Int) 0
theorem impl_joined.br_l : ∀ k, (∀ (x1 : List UInt8) (x5 : List (List UInt8)) (x9 : List Int) (x10 : Int) (x11 : Int), LeO (impl_joined.l0 k x1 x5 x9 x10 x11) (S.impl_joined.l0 x1 x5 x9 x10 x11))
 | 0 => fun _ _ _ _ _ => LeO.none _
 | k + 1 => by
  have ih := impl_joined.br_l k
  have ih_l0 := ih
  refine fun x1 x5 x9 x10 x11 => ?_
  ·refine LeO.of (S.impl_joined.l0.eq _ _ _ _ _) ?_
   show LeO (impl_joined.l0 (k + 1) x1 x5 x9 x10 x11) _
   unfold impl_joined.l0
   exact (LeO.dec (fun h0 => (LeO.tst fun h1 => (LeO.tst fun h2 => (LeO.rdI h1 h2 (LeO.bind (LeO.refl _) (fun y3 => (LeO.tst fun h3 => (LeO.cat1 h3 (ih_l0 _ _ _ _ _))))))))) (fun h0 => (LeO.bind (LeO.refl _) (fun y6 => LeO.refl _))))
theorem impl_joined.f.br (k : Nat) (x0 : List Int) (x1 : List UInt8) : LeO (impl_joined.f k x0 x1) (S.impl_joined.f x0 x1) := by
 refine LeO.of (S.impl_joined.f.eq _ _) ?_
 unfold impl_joined.f
 have ih_l0 := (impl_joined.br_l k)
 exact (ih_l0 _ _ _ _ _)
def impl_textOf.f (x0 : Int) : Option (List UInt8) := (S.strconv_Itoa.f x0).bind fun y1 => (some y1)
theorem impl_textOf.f.br (x0 : Int) : LeO (impl_textOf.f x0) (S.impl_textOf.f x0) := by
 refine LeO.of (S.impl_textOf.f.eq _) ?_
 unfold impl_textOf.f
 exact (LeO.bind (LeO.refl _) (fun y1 => LeO.refl _))
def impl_Puzzle_text.l0 : Nat → List (List UInt8) → (List (Int × Int × Int)) → Int → Int → Int → (List (Int × Int × Int)) → Option (List UInt8)
 | 0, _, _, _, _, _, _ => none
 | k + 1, x3, x8, x9, x10, xb1_0, xb1_1 => if x10 < x9 then (if 0 ≤ x10 then (if x10 < (x8.length : Int) then ((impl_joined.f k [(rde x8 x10).1, (rde x8 x10).2.1, (rde x8 x10).2.2] [46]).bind fun y3 => (if x3.length < 8796093022208 then (impl_Puzzle_text.l0 k (x3 ++ [y3]) x8 x9 (IntKind.i64.wrap (x10 + 1)) xb1_0 xb1_1) else (none))) else (none)) else (none)) else ((impl_textOf.f xb1_0).bind fun y6 => (if y6.length + 1 ≤ 9223372036854775807 then ((S.strings_Join.f x3 [44]).bind fun y8 => (if (y6 ++ [97]).length + y8.length ≤ 9223372036854775807 then (some ((y6 ++ [97]) ++ y8)) else (none))) else (none)))
def impl_Puzzle_text.f (k : Nat) (x0 : Int × (List (Int × Int × Int))) : Option (List UInt8) := impl_Puzzle_text.l0 k [] x0.2 (x0.2.length : Int) 0 x0.1 x0.2
theorem impl_Puzzle_text.br_l : ∀ k, (∀ (x3 : List (List UInt8)) (x8 : List (Int × Int × Int)) (x9 : Int) (x10 : Int) (xb1_0 : Int) (xb1_1 : List (Int × Int × Int)), LeO (impl_Puzzle_text.l0 k x3 x8 x9 x10 xb1_0 xb1_1) (S.impl_Puzzle_text.l0 x3 x8 x9 x10 xb1_0 xb1_1))
 | 0 => fun _ _ _ _ _ _ => LeO.none _
 | k + 1 => by
  have ih := impl_Puzzle_text.br_l k
  have ih_l0 := ih
  refine fun x3 x8 x9 x10 xb1_0 xb1_1 => ?_
  ·refine LeO.of (S.impl_Puzzle_text.l0.eq _ _ _ _ _ _) ?_
   show LeO (impl_Puzzle_text.l0 (k + 1) x3 x8 x9 x10 xb1_0 xb1_1) _
   unfold impl_Puzzle_text.l0
   exact (LeO.dec (fun h0 => (LeO.tst fun h1 => (LeO.tst fun h2 => (LeO.rdI h1 h2 (LeO.bind (impl_joined.f.br k _ _) (fun y3 => (LeO.tst fun h3 => (LeO.cat1 h3 (ih_l0 _ _ _ _ _ _))))))))) (fun h0 => (LeO.bind (impl_textOf.f.br _) (fun y6 => (LeO.tst fun h1 => (LeO.catS h1 (LeO.bind (LeO.refl _) (fun y8 => (LeO.tst fun h2 => (LeO.catS h2 (LeO.refl _)))))))))))
theorem impl_Puzzle_text.f.br (k : Nat) (x0 : Int × (List (Int × Int × Int))) : LeO (impl_Puzzle_text.f k x0) (S.impl_Puzzle_text.f x0) := by
 refine LeO.of (S.impl_Puzzle_text.f.eq _) ?_
 unfold impl_Puzzle_text.f
 have ih_l0 := (impl_Puzzle_text.br_l k)
 exact (ih_l0 _ _ _ _ _ _)
def impl_PuzzleText.f (k : Nat) (x0 : Int × (List (Int × Int × Int))) : Option ((List UInt8) × Bool) := (impl_IsPuzzle.f k (x0.1, x0.2)).bind fun y1 => (if y1 = true then ((impl_Puzzle_text.f k (x0.1, x0.2)).bind fun y2 => (some (y2, true))) else (some ([], false)))
theorem impl_PuzzleText.f.br (k : Nat) (x0 : Int × (List (Int × Int × Int))) : LeO (impl_PuzzleText.f k x0) (S.impl_PuzzleText.f x0) := by
 refine LeO.of (S.impl_PuzzleText.f.eq _) ?_
 unfold impl_PuzzleText.f
 exact (LeO.bind (impl_IsPuzzle.f.br k _) (fun y1 => (LeO.nob (fun h0 => (LeO.bind (impl_Puzzle_text.f.br k _) (fun y2 => LeO.refl _))) (fun h0 => LeO.refl _))))
theorem u8_dig (n : Nat) (h : n < 10) : ([(IntKind.u8.wrap (IntKind.i64.wrap (48 + (n : Int))))].map fun n => UInt8.ofNat n.toNat) = [UInt8.ofNat (48 + n)] := by
 have e1 : IntKind.i64.wrap (48 + (n : Int)) = 48 + (n : Int) := by rw [Go.IntWalk.i64_left]; unfold Go.RowKit.wrap64; omega
 have e2 : IntKind.u8.wrap (48 + (n : Int)) = ((48 + n : Nat) : Int) := by
  have : IntKind.u8.wrap (48 + (n : Int)) = (48 + (n : Int)) % 256 := rfl
  rw [this]; omega
 rw [e1, e2]
 rfl
theorem l1Num_r (d : Nat) : ∀ n : Nat, n < 10 ^ d → n ≤ 9999 → 1 ≤ d → (∀ k, d ≤ k → S.spec_l1Num.r k (n : Int) = some (Go.Lib.decDigits n)) ∧ (Go.Lib.decDigits n).length ≤ d := by
 induction d with
 | zero => intro n _ _ h; omega
 | succ d ih =>
  intro n hn hm _
  rw [Go.Lib.decDigits]
  by_cases h : n < 10
  ·rw [dif_pos h]
   refine ⟨fun k hk => ?_, by simp⟩
   obtain ⟨k, rfl⟩ : ∃ m, k = m + 1 := ⟨k - 1, by omega⟩
   rw [S.spec_l1Num.r.eq, if_pos (decide_eq_true (show (n : Int) < 10 by omega)), u8_dig n h]
  ·rw [dif_neg h]
   have hd : 1 ≤ d := by
    rcases Nat.eq_zero_or_pos d with h0 | h0
    ·subst h0
     omega
    ·exact h0
   have h10 : n / 10 < 10 ^ d := by
    rw [Nat.pow_succ] at hn
    omega
   obtain ⟨b, hl⟩ := ih (n / 10) h10 (by omega) hd
   refine ⟨fun k hk => ?_, by rw [List.length_append, List.length_singleton]; omega⟩
   obtain ⟨k, rfl⟩ : ∃ m, k = m + 1 := ⟨k - 1, by omega⟩
   have e1 : IntKind.i64.wrap (Int.tdiv (n : Int) 10) = ((n / 10 : Nat) : Int) := by
    rw [show Int.tdiv (n : Int) 10 = ((n / 10 : Nat) : Int) from rfl, Go.IntWalk.i64_left]
    unfold Go.RowKit.wrap64
    omega
   have e2 : Int.tmod (n : Int) 10 = ((n % 10 : Nat) : Int) := rfl
   have hlen : (Go.Lib.decDigits (n / 10)).length ≤ 21 := by
    have := Go.Lib.itoa_length_le ((n / 10 : Nat) : Int) (by omega) (by omega)
    unfold Go.Lib.itoa at this
    rw [if_neg (by omega), Int.toNat_natCast] at this
    exact this
   rw [S.spec_l1Num.r.eq, if_neg (by simp; omega), e1, e2, b k (by omega), Option.bind_some, u8_dig (n % 10) (by omega), catI_cat (by unfold strMax; simp; omega), Option.bind_some]
/-- The digits of a number. -/
def spec_l1Num.f (x0 : Int) : Option (List UInt8) := if 0 ≤ x0 ∧ x0 ≤ 9999 then some (Go.Lib.itoa x0) else none
theorem spec_l1Num.f.br (x0 : Int) : LeO (spec_l1Num.f x0) (S.spec_l1Num.f x0) := by
 unfold spec_l1Num.f
 split
 ·rename_i h
  obtain ⟨n, rfl⟩ : ∃ n : Nat, x0 = (n : Int) := ⟨x0.toNat, by omega⟩
  have h1 := (l1Num_r 4 n (by omega) (by omega) (by omega)).1
  have e : Go.Lib.itoa (n : Int) = Go.Lib.decDigits n := by
   unfold Go.Lib.itoa
   rw [if_neg (by omega), Int.toNat_natCast]
  have h2 : S.spec_l1Num.f (n : Int) = some (Go.Lib.itoa (n : Int)) := by
   rw [e]
   exact lim_eq ⟨4, h1⟩
  rw [h2]
  exact LeO.refl _
 ·exact LeO.none _
def spec_pzText.l0 : Nat → List UInt8 → (List (Int × Int × Int)) → Int → Int → Option (List UInt8)
 | 0, _, _, _, _ => none
 | k + 1, x3, x11, x12, x13 => if x13 < x12 then (if 0 ≤ x13 then (if x13 < (x11.length : Int) then (if x13 > 0 then (if x3.length + 1 ≤ 9223372036854775807 then ((spec_l1Num.f (rde x11 x13).1).bind fun y5 => (if y5.length + 1 ≤ 9223372036854775807 then ((spec_l1Num.f (rde x11 x13).2.1).bind fun y7 => (if (y5 ++ [46]).length + y7.length ≤ 9223372036854775807 then (if ((y5 ++ [46]) ++ y7).length + 1 ≤ 9223372036854775807 then ((spec_l1Num.f (rde x11 x13).2.2).bind fun y10 => (if (((y5 ++ [46]) ++ y7) ++ [46]).length + y10.length ≤ 9223372036854775807 then (if (x3 ++ [44]).length + ((((y5 ++ [46]) ++ y7) ++ [46]) ++ y10).length ≤ 9223372036854775807 then (spec_pzText.l0 k ((x3 ++ [44]) ++ ((((y5 ++ [46]) ++ y7) ++ [46]) ++ y10)) x11 x12 (IntKind.i64.wrap (x13 + 1))) else (none)) else (none))) else (none)) else (none))) else (none))) else (none)) else ((spec_l1Num.f (rde x11 x13).1).bind fun y14 => (if y14.length + 1 ≤ 9223372036854775807 then ((spec_l1Num.f (rde x11 x13).2.1).bind fun y16 => (if (y14 ++ [46]).length + y16.length ≤ 9223372036854775807 then (if ((y14 ++ [46]) ++ y16).length + 1 ≤ 9223372036854775807 then ((spec_l1Num.f (rde x11 x13).2.2).bind fun y19 => (if (((y14 ++ [46]) ++ y16) ++ [46]).length + y19.length ≤ 9223372036854775807 then (if x3.length + ((((y14 ++ [46]) ++ y16) ++ [46]) ++ y19).length ≤ 9223372036854775807 then (spec_pzText.l0 k (x3 ++ ((((y14 ++ [46]) ++ y16) ++ [46]) ++ y19)) x11 x12 (IntKind.i64.wrap (x13 + 1))) else (none)) else (none))) else (none)) else (none))) else (none)))) else (none)) else (none)) else (some x3)
def spec_pzText.f (k : Nat) (x0 : Int × (List (Int × Int × Int))) : Option (List UInt8) := (spec_l1Num.f x0.1).bind fun y1 => (if y1.length + 1 ≤ 9223372036854775807 then (spec_pzText.l0 k (y1 ++ [97]) x0.2 (x0.2.length : Int) 0) else (none))
theorem spec_pzText.br_l : ∀ k, (∀ (x3 : List UInt8) (x11 : List (Int × Int × Int)) (x12 : Int) (x13 : Int), LeO (spec_pzText.l0 k x3 x11 x12 x13) (S.spec_pzText.l0 x3 x11 x12 x13))
 | 0 => fun _ _ _ _ => LeO.none _
 | k + 1 => by
  have ih := spec_pzText.br_l k
  have ih_l0 := ih
  refine fun x3 x11 x12 x13 => ?_
  ·refine LeO.of (S.spec_pzText.l0.eq _ _ _ _) ?_
   show LeO (spec_pzText.l0 (k + 1) x3 x11 x12 x13) _
   unfold spec_pzText.l0
   exact (LeO.dec (fun h0 => (LeO.tst fun h1 => (LeO.tst fun h2 => (LeO.rdI h1 h2 (LeO.dec (fun h3 => (LeO.tst fun h4 => (LeO.catS h4 (LeO.bind (spec_l1Num.f.br _) (fun y5 => (LeO.tst fun h5 => (LeO.catS h5 (LeO.bind (spec_l1Num.f.br _) (fun y7 => (LeO.tst fun h6 => (LeO.catS h6 (LeO.tst fun h7 => (LeO.catS h7 (LeO.bind (spec_l1Num.f.br _) (fun y10 => (LeO.tst fun h8 => (LeO.catS h8 (LeO.tst fun h9 => (LeO.catS h9 (ih_l0 _ _ _ _)))))))))))))))))))) (fun h3 => (LeO.bind (spec_l1Num.f.br _) (fun y14 => (LeO.tst fun h4 => (LeO.catS h4 (LeO.bind (spec_l1Num.f.br _) (fun y16 => (LeO.tst fun h5 => (LeO.catS h5 (LeO.tst fun h6 => (LeO.catS h6 (LeO.bind (spec_l1Num.f.br _) (fun y19 => (LeO.tst fun h7 => (LeO.catS h7 (LeO.tst fun h8 => (LeO.catS h8 (ih_l0 _ _ _ _))))))))))))))))))))))) (fun h0 => LeO.refl _))
theorem spec_pzText.f.br (k : Nat) (x0 : Int × (List (Int × Int × Int))) : LeO (spec_pzText.f k x0) (S.spec_pzText.f x0) := by
 refine LeO.of (S.spec_pzText.f.eq _) ?_
 unfold spec_pzText.f
 have ih_l0 := (spec_pzText.br_l k)
 exact (LeO.bind (spec_l1Num.f.br _) (fun y1 => (LeO.tst fun h0 => (LeO.catS h0 (ih_l0 _ _ _ _)))))
def spec_PuzzleText.f (k : Nat) (x0 : Int × (List (Int × Int × Int))) : Option ((List UInt8) × Bool) := (spec_pzGood.f k (x0.1, x0.2)).bind fun y1 => (if y1 = true then ((spec_pzText.f k (x0.1, x0.2)).bind fun y2 => (some (y2, true))) else (some ([], false)))
theorem spec_PuzzleText.f.br (k : Nat) (x0 : Int × (List (Int × Int × Int))) : LeO (spec_PuzzleText.f k x0) (S.spec_PuzzleText.f x0) := by
 refine LeO.of (S.spec_PuzzleText.f.eq _) ?_
 unfold spec_PuzzleText.f
 exact (LeO.bind (spec_pzGood.f.br k _) (fun y1 => (LeO.nob (fun h0 => (LeO.bind (spec_pzText.f.br k _) (fun y2 => LeO.refl _))) (fun h0 => LeO.refl _))))
def laws_qSame.l0 : Nat → List Int → List Int → Int → Int → Option (Bool)
 | 0, _, _, _, _ => none
 | k + 1, x0, x1, x12, x13 => if x13 < x12 then (if 0 ≤ x13 then (if x13 < (x0.length : Int) then (if x13 < (x1.length : Int) then (if (rde x0 x13) = (rde x1 x13) then (laws_qSame.l0 k x0 x1 x12 (IntKind.i64.wrap (x13 + 1))) else (some false)) else (none)) else (none)) else (none)) else (some true)
def laws_qSame.f (k : Nat) (x0 : List Int) (x1 : List Int) : Option (Bool) := if (x0.length : Int) = (x1.length : Int) then (laws_qSame.l0 k x0 x1 (x0.length : Int) 0) else (some false)
theorem laws_qSame.br_l : ∀ k, (∀ (x0 : List Int) (x1 : List Int) (x12 : Int) (x13 : Int), LeO (laws_qSame.l0 k x0 x1 x12 x13) (S.laws_qSame.l0 x0 x1 x12 x13))
 | 0 => fun _ _ _ _ => LeO.none _
 | k + 1 => by
  have ih := laws_qSame.br_l k
  have ih_l0 := ih
  refine fun x0 x1 x12 x13 => ?_
  ·refine LeO.of (S.laws_qSame.l0.eq _ _ _ _) ?_
   show LeO (laws_qSame.l0 (k + 1) x0 x1 x12 x13) _
   unfold laws_qSame.l0
   exact (LeO.dec (fun h0 => (LeO.tst fun h1 => (LeO.tst fun h2 => (LeO.rdI h1 h2 (LeO.tst fun h3 => (LeO.rdI h1 h3 (LeO.bne (fun h4 => (ih_l0 _ _ _ _)) (fun h4 => LeO.refl _)))))))) (fun h0 => LeO.refl _))
theorem laws_qSame.f.br (k : Nat) (x0 : List Int) (x1 : List Int) : LeO (laws_qSame.f k x0 x1) (S.laws_qSame.f x0 x1) := by
 refine LeO.of (S.laws_qSame.f.eq _ _) ?_
 unfold laws_qSame.f
 have ih_l0 := (laws_qSame.br_l k)
 exact (LeO.bne (fun h0 => (ih_l0 _ _ _ _)) (fun h0 => LeO.refl _))
def laws_qRows.l0 : Nat → List (List Int) → List (List Int) → Int → Int → Option (Bool)
 | 0, _, _, _, _ => none
 | k + 1, x0, x1, x12, x13 => if x13 < x12 then (if 0 ≤ x13 then (if x13 < (x0.length : Int) then (if x13 < (x1.length : Int) then ((laws_qSame.f k (rde x0 x13) (rde x1 x13)).bind fun y4 => (if y4 = true then (laws_qRows.l0 k x0 x1 x12 (IntKind.i64.wrap (x13 + 1))) else (some false))) else (none)) else (none)) else (none)) else (some true)
def laws_qRows.f (k : Nat) (x0 : List (List Int)) (x1 : List (List Int)) : Option (Bool) := if (x0.length : Int) = (x1.length : Int) then (laws_qRows.l0 k x0 x1 (x0.length : Int) 0) else (some false)
theorem laws_qRows.br_l : ∀ k, (∀ (x0 : List (List Int)) (x1 : List (List Int)) (x12 : Int) (x13 : Int), LeO (laws_qRows.l0 k x0 x1 x12 x13) (S.laws_qRows.l0 x0 x1 x12 x13))
 | 0 => fun _ _ _ _ => LeO.none _
 | k + 1 => by
  have ih := laws_qRows.br_l k
  have ih_l0 := ih
  refine fun x0 x1 x12 x13 => ?_
  ·refine LeO.of (S.laws_qRows.l0.eq _ _ _ _) ?_
   show LeO (laws_qRows.l0 (k + 1) x0 x1 x12 x13) _
   unfold laws_qRows.l0
   exact (LeO.dec (fun h0 => (LeO.tst fun h1 => (LeO.tst fun h2 => (LeO.rdI h1 h2 (LeO.tst fun h3 => (LeO.rdI h1 h3 (LeO.bind (laws_qSame.f.br k _ _) (fun y4 => (LeO.nob (fun h4 => (ih_l0 _ _ _ _)) (fun h4 => LeO.refl _)))))))))) (fun h0 => LeO.refl _))
theorem laws_qRows.f.br (k : Nat) (x0 : List (List Int)) (x1 : List (List Int)) : LeO (laws_qRows.f k x0 x1) (S.laws_qRows.f x0 x1) := by
 refine LeO.of (S.laws_qRows.f.eq _ _) ?_
 unfold laws_qRows.f
 have ih_l0 := (laws_qRows.br_l k)
 exact (LeO.bne (fun h0 => (ih_l0 _ _ _ _)) (fun h0 => LeO.refl _))
def spec_IsPuzzle.f (k : Nat) (x0 : Int × (List (Int × Int × Int))) : Option (Bool) := (spec_pzGood.f k (x0.1, x0.2)).bind fun y1 => (some y1)
theorem spec_IsPuzzle.f.br (k : Nat) (x0 : Int × (List (Int × Int × Int))) : LeO (spec_IsPuzzle.f k x0) (S.spec_IsPuzzle.f x0) := by
 refine LeO.of (S.spec_IsPuzzle.f.eq _) ?_
 unfold spec_IsPuzzle.f
 exact (LeO.bind (spec_pzGood.f.br k _) (fun y1 => LeO.refl _))
def laws_qBefore.l0 : Nat → List Int → List Int → List Int → Int → Int → Option (Bool)
 | 0, _, _, _, _, _ => none
 | k + 1, x0, x1, x7, x8, x9 => if x9 < x8 then (if 0 ≤ x9 then (if x9 < (x7.length : Int) then (if x9 = (x1.length : Int) then (some false) else (if x9 < (x1.length : Int) then (if (rde x7 x9) = (rde x1 x9) then (laws_qBefore.l0 k x0 x1 x7 x8 (IntKind.i64.wrap (x9 + 1))) else (some (decide ((rde x7 x9) < (rde x1 x9))))) else (none))) else (none)) else (none)) else (some (decide ((x0.length : Int) < (x1.length : Int))))
def laws_qBefore.f (k : Nat) (x0 : List Int) (x1 : List Int) : Option (Bool) := laws_qBefore.l0 k x0 x1 x0 (x0.length : Int) 0
theorem laws_qBefore.br_l : ∀ k, (∀ (x0 : List Int) (x1 : List Int) (x7 : List Int) (x8 : Int) (x9 : Int), LeO (laws_qBefore.l0 k x0 x1 x7 x8 x9) (S.laws_qBefore.l0 x0 x1 x7 x8 x9))
 | 0 => fun _ _ _ _ _ => LeO.none _
 | k + 1 => by
  have ih := laws_qBefore.br_l k
  have ih_l0 := ih
  refine fun x0 x1 x7 x8 x9 => ?_
  ·refine LeO.of (S.laws_qBefore.l0.eq _ _ _ _ _) ?_
   show LeO (laws_qBefore.l0 (k + 1) x0 x1 x7 x8 x9) _
   unfold laws_qBefore.l0
   exact (LeO.dec (fun h0 => (LeO.tst fun h1 => (LeO.tst fun h2 => (LeO.rdI h1 h2 (LeO.beq (fun h3 => LeO.refl _) (fun h3 => (LeO.tst fun h4 => (LeO.rdI h1 h4 (LeO.bne (fun h5 => (ih_l0 _ _ _ _ _)) (fun h5 => (LeO.rdI h1 h4 (LeO.refl _)))))))))))) (fun h0 => LeO.refl _))
theorem laws_qBefore.f.br (k : Nat) (x0 : List Int) (x1 : List Int) : LeO (laws_qBefore.f k x0 x1) (S.laws_qBefore.f x0 x1) := by
 refine LeO.of (S.laws_qBefore.f.eq _ _) ?_
 unfold laws_qBefore.f
 have ih_l0 := (laws_qBefore.br_l k)
 exact (ih_l0 _ _ _ _ _)
def laws_qOrdered.l0 : Nat → List (List Int) → Int → Option (Bool)
 | 0, _, _ => none
 | k + 1, x0, x3 => if x3 < (x0.length : Int) then (if 0 ≤ (IntKind.i64.wrap (x3 - 1)) then (if (IntKind.i64.wrap (x3 - 1)) < (x0.length : Int) then (if 0 ≤ x3 then ((laws_qBefore.f k (rde x0 (IntKind.i64.wrap (x3 - 1))) (rde x0 x3)).bind fun y6 => (if y6 = true then (laws_qOrdered.l0 k x0 (IntKind.i64.wrap (x3 + 1))) else (some false))) else (none)) else (none)) else (none)) else (some true)
def laws_qOrdered.f (k : Nat) (x0 : List (List Int)) : Option (Bool) := laws_qOrdered.l0 k x0 1
theorem laws_qOrdered.br_l : ∀ k, (∀ (x0 : List (List Int)) (x3 : Int), LeO (laws_qOrdered.l0 k x0 x3) (S.laws_qOrdered.l0 x0 x3))
 | 0 => fun _ _ => LeO.none _
 | k + 1 => by
  have ih := laws_qOrdered.br_l k
  have ih_l0 := ih
  refine fun x0 x3 => ?_
  ·refine LeO.of (S.laws_qOrdered.l0.eq _ _) ?_
   show LeO (laws_qOrdered.l0 (k + 1) x0 x3) _
   unfold laws_qOrdered.l0
   exact (LeO.dec (fun h0 => (LeO.tst fun h1 => (LeO.tst fun h2 => (LeO.rdI h1 h2 (LeO.tst fun h3 => (LeO.rdI h3 h0 (LeO.bind (laws_qBefore.f.br k _ _) (fun y6 => (LeO.nob (fun h4 => (ih_l0 _ _)) (fun h4 => LeO.refl _)))))))))) (fun h0 => LeO.refl _))
theorem laws_qOrdered.f.br (k : Nat) (x0 : List (List Int)) : LeO (laws_qOrdered.f k x0) (S.laws_qOrdered.f x0) := by
 refine LeO.of (S.laws_qOrdered.f.eq _) ?_
 unfold laws_qOrdered.f
 have ih_l0 := (laws_qOrdered.br_l k)
 exact (ih_l0 _ _)
def impl_areBetween_1.f (x0 : Int) (x1 : Int) (x2 : Int) : Option (Bool) := (impl_between.f x0 x1 x2).bind fun y1 => (some (!y1))
theorem impl_areBetween_1.f.br (x0 : Int) (x1 : Int) (x2 : Int) : LeO (impl_areBetween_1.f x0 x1 x2) (S.impl_areBetween_1.f x0 x1 x2) := by
 refine LeO.of (S.impl_areBetween_1.f.eq _ _ _) ?_
 unfold impl_areBetween_1.f
 exact (LeO.bind (impl_between.f.br _ _ _) (fun y1 => LeO.refl _))
def slices_IndexFunc_97.l0 : Nat → List Int → Int → Int → Int → Int → Option (Int)
 | 0, _, _, _, _, _ => none
 | k + 1, x0, x1_0, x1_1, x7, x8 => if x8 < x7 then (if 0 ≤ x8 then (if x8 < (x0.length : Int) then (((impl_areBetween_1.f (rde x0 x8) x1_0 x1_1).bind some).bind fun y3 => (if y3 = true then (some x8) else (slices_IndexFunc_97.l0 k x0 x1_0 x1_1 x7 (IntKind.i64.wrap (x8 + 1))))) else (none)) else (none)) else (some (-1))
def slices_IndexFunc_97.f (k : Nat) (x0 : List Int) (x1_0 : Int) (x1_1 : Int) : Option (Int) := slices_IndexFunc_97.l0 k x0 x1_0 x1_1 (x0.length : Int) 0
theorem slices_IndexFunc_97.br_l : ∀ k, (∀ (x0 : List Int) (x1_0 : Int) (x1_1 : Int) (x7 : Int) (x8 : Int), LeO (slices_IndexFunc_97.l0 k x0 x1_0 x1_1 x7 x8) (S.slices_IndexFunc_97.l0 x0 x1_0 x1_1 x7 x8))
 | 0 => fun _ _ _ _ _ => LeO.none _
 | k + 1 => by
  have ih := slices_IndexFunc_97.br_l k
  have ih_l0 := ih
  refine fun x0 x1_0 x1_1 x7 x8 => ?_
  ·refine LeO.of (S.slices_IndexFunc_97.l0.eq _ _ _ _ _) ?_
   show LeO (slices_IndexFunc_97.l0 (k + 1) x0 x1_0 x1_1 x7 x8) _
   unfold slices_IndexFunc_97.l0
   exact (LeO.dec (fun h0 => (LeO.tst fun h1 => (LeO.tst fun h2 => (LeO.rdI h1 h2 (LeO.bind (LeO.bind (impl_areBetween_1.f.br _ _ _) (fun _ => LeO.refl _)) (fun y3 => (LeO.ite' (fun h3 => LeO.refl _) (fun h3 => (ih_l0 _ _ _ _ _))))))))) (fun h0 => LeO.refl _))
theorem slices_IndexFunc_97.f.br (k : Nat) (x0 : List Int) (x1_0 : Int) (x1_1 : Int) : LeO (slices_IndexFunc_97.f k x0 x1_0 x1_1) (S.slices_IndexFunc_97.f x0 x1_0 x1_1) := by
 refine LeO.of (S.slices_IndexFunc_97.f.eq _ _ _) ?_
 unfold slices_IndexFunc_97.f
 have ih_l0 := (slices_IndexFunc_97.br_l k)
 exact (ih_l0 _ _ _ _ _)
def slices_ContainsFunc_78.f (k : Nat) (x0 : List Int) (x1_0 : Int) (x1_1 : Int) : Option (Bool) := (slices_IndexFunc_97.f k x0 x1_0 x1_1).bind fun y1 => (some (decide (y1 ≥ 0)))
theorem slices_ContainsFunc_78.f.br (k : Nat) (x0 : List Int) (x1_0 : Int) (x1_1 : Int) : LeO (slices_ContainsFunc_78.f k x0 x1_0 x1_1) (S.slices_ContainsFunc_78.f x0 x1_0 x1_1) := by
 refine LeO.of (S.slices_ContainsFunc_78.f.eq _ _ _) ?_
 unfold slices_ContainsFunc_78.f
 exact (LeO.bind (slices_IndexFunc_97.f.br k _ _ _) (fun y1 => LeO.refl _))
theorem areBetween_1_is (x a b : Int) : impl_areBetween_1.f x a b = some (!(decide (a ≤ x) && decide (x ≤ b))) := by
 unfold impl_areBetween_1.f impl_between.f
 by_cases h : x ≥ a
 ·rw [if_pos h, decide_eq_true (show a ≤ x from h), Bool.true_and]; rfl
 ·rw [if_neg h, decide_eq_false (show ¬ a ≤ x from h), Bool.false_and]; rfl
theorem IndexFunc_l (l : List Int) (a b : Int) (hl : l.length < 4611686018427387904) : ∀ (d i k : Nat), i + d = l.length → d < k → ∃ r, slices_IndexFunc_97.l0 k l a b (l.length : Int) (i : Int) = some r ∧ decide (r ≥ 0) = !((l.drop i).all fun x => decide (a ≤ x) && decide (x ≤ b)) := by
 intro d
 induction d with
 | zero =>
  intro i k h hk
  obtain ⟨k, rfl⟩ : ∃ m, k = m + 1 := ⟨k - 1, by omega⟩
  unfold slices_IndexFunc_97.l0
  rw [if_neg (by omega), List.drop_eq_nil_of_le (by omega)]
  exact ⟨_, rfl, by simp⟩
 | succ d ih =>
  intro i k h hk
  obtain ⟨k, rfl⟩ : ∃ m, k = m + 1 := ⟨k - 1, by omega⟩
  unfold slices_IndexFunc_97.l0
  have hi : i < l.length := by omega
  rw [if_pos (by omega), if_pos (by omega), if_pos (by omega), areBetween_1_is, List.drop_eq_getElem_cons hi, List.all_cons]
  have e : rde l (i : Int) = l[i] := by unfold rde; rw [Int.toNat_natCast, List.getD_eq_getElem?_getD, List.getElem?_eq_getElem hi, Option.getD_some]
  rw [e]
  simp only [Option.bind_some]
  cases hb : (decide (a ≤ l[i]) && decide (l[i] ≤ b))
  ·exact ⟨(i : Int), by simp, by simp⟩
  ·have hw : IntKind.i64.wrap ((i : Int) + 1) = ((i + 1 : Nat) : Int) := by rw [Go.IntWalk.i64_left]; unfold Go.RowKit.wrap64; omega
   obtain ⟨r, h1, h2⟩ := ih (i + 1) k (by omega) (by omega)
   refine ⟨r, ?_, ?_⟩
   ·rw [hw, h1]; rfl
   ·rw [h2, Bool.true_and]
/-- Are all numbers of a list in their bounds? -/
def impl_areBetween.f (x0 : List Int) (x1 : Int) (x2 : Int) : Option (Bool) := if x0.length < 4611686018427387904 then some (x0.all fun x => decide (x1 ≤ x) && decide (x ≤ x2)) else none
theorem impl_areBetween.f.br (x0 : List Int) (x1 : Int) (x2 : Int) : LeO (impl_areBetween.f x0 x1 x2) (S.impl_areBetween.f x0 x1 x2) := by
 unfold impl_areBetween.f
 split
 ·rename_i hl
  obtain ⟨r, h1, h2⟩ := IndexFunc_l x0 x1 x2 hl x0.length 0 (x0.length + 1) (by omega) (by omega)
  rw [List.drop_zero] at h2
  have h3 : slices_ContainsFunc_78.f (x0.length + 1) x0 x1 x2 = some (decide (r ≥ 0)) := by
   unfold slices_ContainsFunc_78.f slices_IndexFunc_97.f
   have h1' : slices_IndexFunc_97.l0 (x0.length + 1) x0 x1 x2 (x0.length : Int) 0 = some r := h1
   rw [h1']; rfl
  have h4 := slices_ContainsFunc_78.f.br _ _ _ _ _ h3
  refine LeO.of (S.impl_areBetween.f.eq _ _ _) ?_
  rw [h4, h2]
  simp only [Option.bind_some, Bool.not_not]
  exact LeO.refl _
 ·exact LeO.none _
def impl_AreAges.f (x0 : List Int) : Option (Bool) := (impl_between.f (x0.length : Int) 1 8).bind fun y2 => (if y2 = true then ((impl_areBetween.f x0 0 120).bind fun y3 => (some y3)) else (some false))
theorem impl_AreAges.f.br (x0 : List Int) : LeO (impl_AreAges.f x0) (S.impl_AreAges.f x0) := by
 refine LeO.of (S.impl_AreAges.f.eq _) ?_
 unfold impl_AreAges.f
 exact (LeO.bind (impl_between.f.br _ _ _) (fun y2 => (LeO.ite' (fun h0 => (LeO.bind (impl_areBetween.f.br _ _ _) (fun y3 => LeO.refl _))) (fun h0 => LeO.refl _))))
def impl_areHidden.f (x0 : List Int) : Option (Bool) := (impl_between.f (x0.length : Int) 2 3).bind fun y2 => (if y2 = true then ((impl_areBetween.f x0 1 12).bind fun y3 => (some y3)) else (some false))
theorem impl_areHidden.f.br (x0 : List Int) : LeO (impl_areHidden.f x0) (S.impl_areHidden.f x0) := by
 refine LeO.of (S.impl_areHidden.f.eq _) ?_
 unfold impl_areHidden.f
 exact (LeO.bind (impl_between.f.br _ _ _) (fun y2 => (LeO.ite' (fun h0 => (LeO.bind (impl_areBetween.f.br _ _ _) (fun y3 => LeO.refl _))) (fun h0 => LeO.refl _))))
def impl_DoesFit.f (k : Nat) (x0 : Int × Int × Int) (x1 : List Int) : Option (Bool × Bool) := (impl_areHidden.f x1).bind fun y1 => (if y1 = true then ((impl_IsClue.f k (x1.length : Int) (x0.1, x0.2.1, x0.2.2)).bind fun y3 => (if y3 = true then ((impl_Clue_fits.f k (x0.1, x0.2.1, x0.2.2) x1).bind fun y5 => (some (y5, true))) else (some (false, false)))) else (some (false, false)))
theorem impl_DoesFit.f.br (k : Nat) (x0 : Int × Int × Int) (x1 : List Int) : LeO (impl_DoesFit.f k x0 x1) (S.impl_DoesFit.f x0 x1) := by
 refine LeO.of (S.impl_DoesFit.f.eq _ _) ?_
 unfold impl_DoesFit.f
 exact (LeO.bind (impl_areHidden.f.br _) (fun y1 => (LeO.nob (fun h0 => (LeO.bind (impl_IsClue.f.br k _ _) (fun y3 => (LeO.nob (fun h1 => (LeO.bind (impl_Clue_fits.f.br k _ _) (fun y5 => LeO.refl _))) (fun h1 => LeO.refl _))))) (fun h0 => LeO.refl _))))
def impl_DropClue.f (k : Nat) (x0 : Int × (List (Int × Int × Int))) (x1 : Int) : Option ((Int × (List (Int × Int × Int))) × Bool) := (impl_IsPuzzle.f k (x0.1, x0.2)).bind fun y1 => (if y1 = true then ((impl_between.f x1 0 (IntKind.i64.wrap ((x0.2.length : Int) - 1))).bind fun y4 => (if y4 = true then ((S.impl_without.f x0.2 x1).bind fun y6 => (some ((x0.1, y6), true))) else (some ((0, []), false)))) else (some ((0, []), false)))
theorem impl_DropClue.f.br (k : Nat) (x0 : Int × (List (Int × Int × Int))) (x1 : Int) : LeO (impl_DropClue.f k x0 x1) (S.impl_DropClue.f x0 x1) := by
 refine LeO.of (S.impl_DropClue.f.eq _ _) ?_
 unfold impl_DropClue.f
 exact (LeO.bind (impl_IsPuzzle.f.br k _) (fun y1 => (LeO.nob (fun h0 => (LeO.bind (impl_between.f.br _ _ _) (fun y4 => (LeO.nob (fun h1 => (LeO.bind (LeO.refl _) (fun y6 => LeO.refl _))) (fun h1 => LeO.refl _))))) (fun h0 => LeO.refl _))))
def laws_qHas.l0 : Nat → Int → List Int → Int → Int → Option (Bool)
 | 0, _, _, _, _ => none
 | k + 1, x1, x7, x8, x9 => if x9 < x8 then (if 0 ≤ x9 then (if x9 < (x7.length : Int) then (if (rde x7 x9) = x1 then (some true) else (laws_qHas.l0 k x1 x7 x8 (IntKind.i64.wrap (x9 + 1)))) else (none)) else (none)) else (some false)
def laws_qHas.f (k : Nat) (x0 : List Int) (x1 : Int) : Option (Bool) := laws_qHas.l0 k x1 x0 (x0.length : Int) 0
theorem laws_qHas.br_l : ∀ k, (∀ (x1 : Int) (x7 : List Int) (x8 : Int) (x9 : Int), LeO (laws_qHas.l0 k x1 x7 x8 x9) (S.laws_qHas.l0 x1 x7 x8 x9))
 | 0 => fun _ _ _ _ => LeO.none _
 | k + 1 => by
  have ih := laws_qHas.br_l k
  have ih_l0 := ih
  refine fun x1 x7 x8 x9 => ?_
  ·refine LeO.of (S.laws_qHas.l0.eq _ _ _ _) ?_
   show LeO (laws_qHas.l0 (k + 1) x1 x7 x8 x9) _
   unfold laws_qHas.l0
   exact (LeO.dec (fun h0 => (LeO.tst fun h1 => (LeO.tst fun h2 => (LeO.rdI h1 h2 (LeO.beq (fun h3 => LeO.refl _) (fun h3 => (ih_l0 _ _ _ _))))))) (fun h0 => LeO.refl _))
theorem laws_qHas.f.br (k : Nat) (x0 : List Int) (x1 : Int) : LeO (laws_qHas.f k x0 x1) (S.laws_qHas.f x0 x1) := by
 refine LeO.of (S.laws_qHas.f.eq _ _) ?_
 unfold laws_qHas.f
 have ih_l0 := (laws_qHas.br_l k)
 exact (ih_l0 _ _ _ _)
def impl_readNumbers.l0 : Nat → List Int → List (List UInt8) → Int → Int → Option ((List Int) × Bool)
 | 0, _, _, _, _ => none
 | k + 1, x6, x14, x15, x16 => if x16 < x15 then (if 0 ≤ x16 then (if x16 < (x14.length : Int) then ((S.impl_readNumber.f (rde x14 x16)).bind fun y3 => (if y3.2 = true then (if x6.length < 17592186044416 then (impl_readNumbers.l0 k (x6 ++ [y3.1]) x14 x15 (IntKind.i64.wrap (x16 + 1))) else (none)) else (some ([], false)))) else (none)) else (none)) else (some (x6, true))
def impl_readNumbers.f (k : Nat) (x0 : List UInt8) (x1 : List UInt8) : Option ((List Int) × Bool) := (S.strings_Split.f x0 x1).bind fun y1 => (impl_readNumbers.l0 k [] y1 (y1.length : Int) 0)
theorem impl_readNumbers.br_l : ∀ k, (∀ (x6 : List Int) (x14 : List (List UInt8)) (x15 : Int) (x16 : Int), LeO (impl_readNumbers.l0 k x6 x14 x15 x16) (S.impl_readNumbers.l0 x6 x14 x15 x16))
 | 0 => fun _ _ _ _ => LeO.none _
 | k + 1 => by
  have ih := impl_readNumbers.br_l k
  have ih_l0 := ih
  refine fun x6 x14 x15 x16 => ?_
  ·refine LeO.of (S.impl_readNumbers.l0.eq _ _ _ _) ?_
   show LeO (impl_readNumbers.l0 (k + 1) x6 x14 x15 x16) _
   unfold impl_readNumbers.l0
   exact (LeO.dec (fun h0 => (LeO.tst fun h1 => (LeO.tst fun h2 => (LeO.rdI h1 h2 (LeO.bind (LeO.refl _) (fun y3 => (LeO.nob (fun h3 => (LeO.tst fun h4 => (LeO.cat1 h4 (ih_l0 _ _ _ _)))) (fun h3 => LeO.refl _)))))))) (fun h0 => LeO.refl _))
theorem impl_readNumbers.f.br (k : Nat) (x0 : List UInt8) (x1 : List UInt8) : LeO (impl_readNumbers.f k x0 x1) (S.impl_readNumbers.f x0 x1) := by
 refine LeO.of (S.impl_readNumbers.f.eq _ _) ?_
 unfold impl_readNumbers.f
 have ih_l0 := (impl_readNumbers.br_l k)
 exact (LeO.bind (LeO.refl _) (fun y1 => (ih_l0 _ _ _ _)))
mutual
def impl_ParsePuzzle.l0 : Nat → List UInt8 → Bool → List (List UInt8) → Int → Int → Int → (List (Int × Int × Int)) → Int → (List (Int × Int × Int)) → Option ((Int × (List (Int × Int × Int))) × Bool)
 | 0, _, _, _, _, _, _, _, _, _ => none
 | k + 1, x0, x8, x30, x31, x32, xb2_0, xb2_1, xb9_0, xb9_1 => if x32 < x31 then (if 0 ≤ x32 then (if x32 < (x30.length : Int) then ((impl_readNumbers.f k (rde x30 x32) [46]).bind fun y3 => (if y3.2 = true then (if (y3.1.length : Int) = 3 then (if (xb9_1.length : Int) = 6 then (some ((0, []), false)) else (if 0 < (y3.1.length : Int) then (if 1 < (y3.1.length : Int) then (if 2 < (y3.1.length : Int) then (if xb9_1.length < 5864062014805 then (impl_ParsePuzzle.l0 k x0 x8 x30 x31 (IntKind.i64.wrap (x32 + 1)) xb2_0 xb2_1 xb9_0 (xb9_1 ++ [((rde y3.1 0), (rde y3.1 1), (rde y3.1 2))])) else (none)) else (none)) else (none)) else (none))) else (some ((0, []), false))) else (some ((0, []), false)))) else (none)) else (none)) else (impl_ParsePuzzle.j0 k x0 x8 xb2_0 xb2_1 xb9_0 xb9_1)
def impl_ParsePuzzle.j0 : Nat → List UInt8 → Bool → Int → (List (Int × Int × Int)) → Int → (List (Int × Int × Int)) → Option ((Int × (List (Int × Int × Int))) × Bool)
 | 0, _, _, _, _, _, _ => none
 | k + 1, x0, x8, xb2_0, xb2_1, xb9_0, xb9_1 => if x8 = true then ((impl_IsPuzzle.f k (xb9_0, xb9_1)).bind fun y1 => (if y1 = true then ((impl_Puzzle_text.f k (xb9_0, xb9_1)).bind fun y3 => (if (y3 != x0) = true then (some ((0, []), false)) else (some ((xb9_0, xb9_1), true)))) else (some ((0, []), false)))) else (some ((0, []), false))
end
def impl_ParsePuzzle.f (k : Nat) (x0 : List UInt8) : Option ((Int × (List (Int × Int × Int))) × Bool) := (S.strings_Cut.f x0 [97]).bind fun y1 => ((S.impl_readNumber.f y1.1).bind fun y2 => (if (y1.2.1 != []) = true then ((S.strings_Split.f y1.2.1 [44]).bind fun y4 => (impl_ParsePuzzle.l0 k x0 y2.2 y4 (y4.length : Int) 0 0 [] y2.1 [])) else (impl_ParsePuzzle.j0 k x0 y2.2 0 [] y2.1 [])))
theorem impl_ParsePuzzle.br_l : ∀ k, (∀ (x0 : List UInt8) (x8 : Bool) (x30 : List (List UInt8)) (x31 : Int) (x32 : Int) (xb2_0 : Int) (xb2_1 : List (Int × Int × Int)) (xb9_0 : Int) (xb9_1 : List (Int × Int × Int)), LeO (impl_ParsePuzzle.l0 k x0 x8 x30 x31 x32 xb2_0 xb2_1 xb9_0 xb9_1) (S.impl_ParsePuzzle.l0 x0 x8 x30 x31 x32 xb2_0 xb2_1 xb9_0 xb9_1)) ∧ (∀ (x0 : List UInt8) (x8 : Bool) (xb2_0 : Int) (xb2_1 : List (Int × Int × Int)) (xb9_0 : Int) (xb9_1 : List (Int × Int × Int)), LeO (impl_ParsePuzzle.j0 k x0 x8 xb2_0 xb2_1 xb9_0 xb9_1) (S.impl_ParsePuzzle.j0 x0 x8 xb2_0 xb2_1 xb9_0 xb9_1))
 | 0 => ⟨fun _ _ _ _ _ _ _ _ _ => LeO.none _, fun _ _ _ _ _ _ => LeO.none _⟩
 | k + 1 => by
  have ih := impl_ParsePuzzle.br_l k
  obtain ⟨ih_l0, ih_j0⟩ := ih
  refine ⟨fun x0 x8 x30 x31 x32 xb2_0 xb2_1 xb9_0 xb9_1 => ?_, fun x0 x8 xb2_0 xb2_1 xb9_0 xb9_1 => ?_⟩
  ·refine LeO.of (S.impl_ParsePuzzle.l0.eq _ _ _ _ _ _ _ _ _) ?_
   unfold impl_ParsePuzzle.l0
   exact (LeO.dec (fun h0 => (LeO.tst fun h1 => (LeO.tst fun h2 => (LeO.rdI h1 h2 (LeO.bind (impl_readNumbers.f.br k _ _) (fun y3 => (LeO.nob (fun h3 => (LeO.bne (fun h4 => (LeO.beq (fun h5 => LeO.refl _) (fun h5 => (LeO.tst fun h7 => (LeO.rdI (by decide) h7 (LeO.tst fun h9 => (LeO.rdI (by decide) h9 (LeO.tst fun h11 => (LeO.rdI (by decide) h11 (LeO.tst fun h12 => (LeO.cat1 h12 (ih_l0 _ _ _ _ _ _ _ _ _)))))))))))) (fun h4 => LeO.refl _))) (fun h3 => LeO.refl _)))))))) (fun h0 => (ih_j0 _ _ _ _ _ _)))
  ·refine LeO.of (S.impl_ParsePuzzle.j0.eq _ _ _ _ _ _) ?_
   unfold impl_ParsePuzzle.j0
   exact (LeO.nob (fun h0 => (LeO.bind (impl_IsPuzzle.f.br k _) (fun y1 => (LeO.nob (fun h1 => (LeO.bind (impl_Puzzle_text.f.br k _) (fun y3 => (LeO.ite' (fun h2 => LeO.refl _) (fun h2 => LeO.refl _))))) (fun h1 => LeO.refl _))))) (fun h0 => LeO.refl _))
theorem impl_ParsePuzzle.f.br (k : Nat) (x0 : List UInt8) : LeO (impl_ParsePuzzle.f k x0) (S.impl_ParsePuzzle.f x0) := by
 refine LeO.of (S.impl_ParsePuzzle.f.eq _) ?_
 unfold impl_ParsePuzzle.f
 have ih_l0 := (impl_ParsePuzzle.br_l k).1
 have ih_j0 := (impl_ParsePuzzle.br_l k).2
 exact (LeO.bind (LeO.refl _) (fun y1 => (LeO.bind (LeO.refl _) (fun y2 => (LeO.ite' (fun h0 => (LeO.bind (LeO.refl _) (fun y4 => (ih_l0 _ _ _ _ _ _ _ _ _)))) (fun h0 => (ih_j0 _ _ _ _ _ _)))))))
mutual
def laws_qPuzzle.j0 : Nat → Bool → Int → (List (Int × Int × Int)) → Int → (List (Int × Int × Int)) → Option (Bool)
 | 0, _, _, _, _, _ => none
 | k + 1, x19, xb2_0, xb2_1, xb3_0, xb3_1 => if x19 = true then (some false) else (laws_qPuzzle.l0 k (xb2_1.length : Int) 0 xb2_0 xb2_1 xb3_0 xb3_1)
def laws_qPuzzle.l0 : Nat → Int → Int → Int → (List (Int × Int × Int)) → Int → (List (Int × Int × Int)) → Option (Bool)
 | 0, _, _, _, _, _, _ => none
 | k + 1, x22, x23, xb2_0, xb2_1, xb3_0, xb3_1 => if x23 < x22 then (if 0 ≤ x23 then (if x23 < (xb2_1.length : Int) then (if x23 < (xb3_1.length : Int) then (if (((rde xb2_1 x23).1 == (rde xb3_1 x23).1) && (((rde xb2_1 x23).2.1 == (rde xb3_1 x23).2.1) && ((rde xb2_1 x23).2.2 == (rde xb3_1 x23).2.2))) = true then (laws_qPuzzle.l0 k x22 (IntKind.i64.wrap (x23 + 1)) xb2_0 xb2_1 xb3_0 xb3_1) else (some false)) else (none)) else (none)) else (none)) else (some true)
end
def laws_qPuzzle.f (k : Nat) (x0 : Int × (List (Int × Int × Int))) (x1 : Int × (List (Int × Int × Int))) : Option (Bool) := if x0.1 = x1.1 then (laws_qPuzzle.j0 k ((x0.2.length : Int) != (x1.2.length : Int)) x0.1 x0.2 x1.1 x1.2) else (laws_qPuzzle.j0 k true x0.1 x0.2 x1.1 x1.2)
theorem laws_qPuzzle.br_l : ∀ k, (∀ (x19 : Bool) (xb2_0 : Int) (xb2_1 : List (Int × Int × Int)) (xb3_0 : Int) (xb3_1 : List (Int × Int × Int)), LeO (laws_qPuzzle.j0 k x19 xb2_0 xb2_1 xb3_0 xb3_1) (S.laws_qPuzzle.j0 x19 xb2_0 xb2_1 xb3_0 xb3_1)) ∧ (∀ (x22 : Int) (x23 : Int) (xb2_0 : Int) (xb2_1 : List (Int × Int × Int)) (xb3_0 : Int) (xb3_1 : List (Int × Int × Int)), LeO (laws_qPuzzle.l0 k x22 x23 xb2_0 xb2_1 xb3_0 xb3_1) (S.laws_qPuzzle.l0 x22 x23 xb2_0 xb2_1 xb3_0 xb3_1))
 | 0 => ⟨fun _ _ _ _ _ => LeO.none _, fun _ _ _ _ _ _ => LeO.none _⟩
 | k + 1 => by
  have ih := laws_qPuzzle.br_l k
  obtain ⟨ih_j0, ih_l0⟩ := ih
  refine ⟨fun x19 xb2_0 xb2_1 xb3_0 xb3_1 => ?_, fun x22 x23 xb2_0 xb2_1 xb3_0 xb3_1 => ?_⟩
  ·refine LeO.of (S.laws_qPuzzle.j0.eq _ _ _ _ _) ?_
   unfold laws_qPuzzle.j0
   exact (LeO.ite' (fun h0 => LeO.refl _) (fun h0 => (ih_l0 _ _ _ _ _ _)))
  ·refine LeO.of (S.laws_qPuzzle.l0.eq _ _ _ _ _ _) ?_
   unfold laws_qPuzzle.l0
   exact (LeO.dec (fun h0 => (LeO.tst fun h1 => (LeO.tst fun h2 => (LeO.rdI h1 h2 (LeO.tst fun h3 => (LeO.rdI h1 h3 (LeO.nob (fun h4 => (ih_l0 _ _ _ _ _ _)) (fun h4 => LeO.refl _)))))))) (fun h0 => LeO.refl _))
theorem laws_qPuzzle.f.br (k : Nat) (x0 : Int × (List (Int × Int × Int))) (x1 : Int × (List (Int × Int × Int))) : LeO (laws_qPuzzle.f k x0 x1) (S.laws_qPuzzle.f x0 x1) := by
 refine LeO.of (S.laws_qPuzzle.f.eq _ _) ?_
 unfold laws_qPuzzle.f
 have ih_j0 := (laws_qPuzzle.br_l k).1
 exact (LeO.bne (fun h0 => (ih_j0 _ _ _ _ _)) (fun h0 => (ih_j0 _ _ _ _ _)))
mutual
def spec_l1Cur_spoilt.l0 : Nat → List UInt8 → List UInt8 → Int → List Int → Int → Int → Option ((List UInt8) × (List Int) × Int × Int)
 | 0, _, _, _, _, _, _ => none
 | k + 1, x1, x2, x7, x0_0, x0_1, x0_2 => if x7 > 0 then (spec_l1Cur_spoilt.j0 k x1 x2 x7 (decide ((x1.length : Int) > 0)) x0_0 x0_1 x0_2) else (spec_l1Cur_spoilt.j0 k x1 x2 x7 false x0_0 x0_1 x0_2)
def spec_l1Cur_spoilt.j0 : Nat → List UInt8 → List UInt8 → Int → Bool → List Int → Int → Int → Option ((List UInt8) × (List Int) × Int × Int)
 | 0, _, _, _, _, _, _, _ => none
 | k + 1, x1, x2, x7, x19, x0_0, x0_1, x0_2 => if x19 = true then ((spec_l1Cur_pick.f x0_0 x0_1 x0_2 (x1.length : Int)).bind fun y2 => ((spec_l1Cur_pick.f y2.2.1 y2.2.2.1 y2.2.2.2 (x2.length : Int)).bind fun y4 => (if 0 ≤ y4.1 then (if y4.1 < (x2.length : Int) then ((spec_l1Cur_pick.f y4.2.1 y4.2.2.1 y4.2.2.2 3).bind fun y7 => (if y7.1 = 0 then (if 0 ≤ y2.1 then (if y2.1 ≤ (x1.length : Int) then (if (x1.take y2.1.toNat).length + ([((rde x2 y4.1).toNat : Int)].map fun n => UInt8.ofNat n.toNat).length ≤ 9223372036854775807 then (if ((x1.take y2.1.toNat) ++ ([((rde x2 y4.1).toNat : Int)].map fun n => UInt8.ofNat n.toNat)).length + (x1.drop y2.1.toNat).length ≤ 9223372036854775807 then (spec_l1Cur_spoilt.l0 k (((x1.take y2.1.toNat) ++ ([((rde x2 y4.1).toNat : Int)].map fun n => UInt8.ofNat n.toNat)) ++ (x1.drop y2.1.toNat)) x2 (IntKind.i64.wrap (x7 - 1)) y7.2.1 y7.2.2.1 y7.2.2.2) else (none)) else (none)) else (none)) else (none)) else (if y7.1 = 1 then (if 0 ≤ y2.1 then (if y2.1 ≤ (x1.length : Int) then (if (x1.take y2.1.toNat).length + ([((rde x2 y4.1).toNat : Int)].map fun n => UInt8.ofNat n.toNat).length ≤ 9223372036854775807 then (if 0 ≤ (IntKind.i64.wrap (y2.1 + 1)) then (if (IntKind.i64.wrap (y2.1 + 1)) ≤ (x1.length : Int) then (if ((x1.take y2.1.toNat) ++ ([((rde x2 y4.1).toNat : Int)].map fun n => UInt8.ofNat n.toNat)).length + (x1.drop (IntKind.i64.wrap (y2.1 + 1)).toNat).length ≤ 9223372036854775807 then (spec_l1Cur_spoilt.l0 k (((x1.take y2.1.toNat) ++ ([((rde x2 y4.1).toNat : Int)].map fun n => UInt8.ofNat n.toNat)) ++ (x1.drop (IntKind.i64.wrap (y2.1 + 1)).toNat)) x2 (IntKind.i64.wrap (x7 - 1)) y7.2.1 y7.2.2.1 y7.2.2.2) else (none)) else (none)) else (none)) else (none)) else (none)) else (none)) else (if 0 ≤ y2.1 then (if y2.1 ≤ (x1.length : Int) then (if 0 ≤ (IntKind.i64.wrap (y2.1 + 1)) then (if (IntKind.i64.wrap (y2.1 + 1)) ≤ (x1.length : Int) then (if (x1.take y2.1.toNat).length + (x1.drop (IntKind.i64.wrap (y2.1 + 1)).toNat).length ≤ 9223372036854775807 then (spec_l1Cur_spoilt.l0 k ((x1.take y2.1.toNat) ++ (x1.drop (IntKind.i64.wrap (y2.1 + 1)).toNat)) x2 (IntKind.i64.wrap (x7 - 1)) y7.2.1 y7.2.2.1 y7.2.2.2) else (none)) else (none)) else (none)) else (none)) else (none))))) else (none)) else (none)))) else (some (x1, x0_0, x0_1, x0_2))
end
def spec_l1Cur_spoilt.f (k : Nat) (x0_0 : List Int) (x0_1 : Int) (x0_2 : Int) (x1 : List UInt8) (x2 : List UInt8) : Option ((List UInt8) × (List Int) × Int × Int) := (spec_l1Cur_pick.f x0_0 x0_1 x0_2 2).bind fun y1 => (spec_l1Cur_spoilt.l0 k x1 x2 (IntKind.i64.wrap (1 + y1.1)) y1.2.1 y1.2.2.1 y1.2.2.2)
theorem spec_l1Cur_spoilt.br_l : ∀ k, (∀ (x1 : List UInt8) (x2 : List UInt8) (x7 : Int) (x0_0 : List Int) (x0_1 : Int) (x0_2 : Int), LeO (spec_l1Cur_spoilt.l0 k x1 x2 x7 x0_0 x0_1 x0_2) (S.spec_l1Cur_spoilt.l0 x1 x2 x7 x0_0 x0_1 x0_2)) ∧ (∀ (x1 : List UInt8) (x2 : List UInt8) (x7 : Int) (x19 : Bool) (x0_0 : List Int) (x0_1 : Int) (x0_2 : Int), LeO (spec_l1Cur_spoilt.j0 k x1 x2 x7 x19 x0_0 x0_1 x0_2) (S.spec_l1Cur_spoilt.j0 x1 x2 x7 x19 x0_0 x0_1 x0_2))
 | 0 => ⟨fun _ _ _ _ _ _ => LeO.none _, fun _ _ _ _ _ _ _ => LeO.none _⟩
 | k + 1 => by
  have ih := spec_l1Cur_spoilt.br_l k
  obtain ⟨ih_l0, ih_j0⟩ := ih
  refine ⟨fun x1 x2 x7 x0_0 x0_1 x0_2 => ?_, fun x1 x2 x7 x19 x0_0 x0_1 x0_2 => ?_⟩
  ·refine LeO.of (S.spec_l1Cur_spoilt.l0.eq _ _ _ _ _ _) ?_
   unfold spec_l1Cur_spoilt.l0
   exact (LeO.dec (fun h0 => (ih_j0 _ _ _ _ _ _ _)) (fun h0 => (ih_j0 _ _ _ _ _ _ _)))
  ·refine LeO.of (S.spec_l1Cur_spoilt.j0.eq _ _ _ _ _ _ _) ?_
   unfold spec_l1Cur_spoilt.j0
   exact (LeO.ite' (fun h0 => (LeO.bind (spec_l1Cur_pick.f.br _ _ _ _) (fun y2 => (LeO.bind (spec_l1Cur_pick.f.br _ _ _ _) (fun y4 => (LeO.tst fun h1 => (LeO.tst fun h2 => (LeO.rdI h1 h2 (LeO.bind (spec_l1Cur_pick.f.br _ _ _ _) (fun y7 => (LeO.beq (fun h3 => (LeO.tst fun h5 => (LeO.tst fun h6 => (LeO.sub0 h5 h6 (LeO.tst fun h7 => (LeO.catS h7 (LeO.subE h5 h6 (LeO.tst fun h8 => (LeO.catS h8 (ih_l0 _ _ _ _ _ _)))))))))) (fun h3 => (LeO.beq (fun h4 => (LeO.tst fun h6 => (LeO.tst fun h7 => (LeO.sub0 h6 h7 (LeO.tst fun h8 => (LeO.catS h8 (LeO.tst fun h9 => (LeO.tst fun h10 => (LeO.subE h9 h10 (LeO.tst fun h11 => (LeO.catS h11 (ih_l0 _ _ _ _ _ _)))))))))))) (fun h4 => (LeO.tst fun h6 => (LeO.tst fun h7 => (LeO.sub0 h6 h7 (LeO.tst fun h8 => (LeO.tst fun h9 => (LeO.subE h8 h9 (LeO.tst fun h10 => (LeO.catS h10 (ih_l0 _ _ _ _ _ _))))))))))))))))))))))) (fun h0 => LeO.refl _))
theorem spec_l1Cur_spoilt.f.br (k : Nat) (x0_0 : List Int) (x0_1 : Int) (x0_2 : Int) (x1 : List UInt8) (x2 : List UInt8) : LeO (spec_l1Cur_spoilt.f k x0_0 x0_1 x0_2 x1 x2) (S.spec_l1Cur_spoilt.f x0_0 x0_1 x0_2 x1 x2) := by
 refine LeO.of (S.spec_l1Cur_spoilt.f.eq _ _ _ _ _) ?_
 unfold spec_l1Cur_spoilt.f
 have ih_l0 := (spec_l1Cur_spoilt.br_l k).1
 exact (LeO.bind (spec_l1Cur_pick.f.br _ _ _ _) (fun y1 => (ih_l0 _ _ _ _ _ _)))
def spec_DrawParsePuzzle.f (k : Nat) (x0 : List Int) : Option (List UInt8) := (spec_l1Cur_surePuzzle_w.f k x0 0 0 4).bind fun y1 => ((spec_pzText.f k y1.1).bind fun y2 => ((spec_l1Cur_one.f y1.2.1 y1.2.2.1 y1.2.2.2 3).bind fun y3 => (if y3.1 = true then ((spec_l1Cur_spoilt.f k y3.2.1 y3.2.2.1 y3.2.2.2 y2 [48, 49, 50, 51, 52, 53, 54, 46, 44, 97]).bind fun y4 => (some y4.1)) else (some y2))))
theorem spec_DrawParsePuzzle.f.br (k : Nat) (x0 : List Int) : LeO (spec_DrawParsePuzzle.f k x0) (S.spec_DrawParsePuzzle.f x0) := by
 refine LeO.of (S.spec_DrawParsePuzzle.f.eq _) ?_
 unfold spec_DrawParsePuzzle.f
 exact (LeO.bind (spec_l1Cur_surePuzzle_w.f.br k _ _ _ _) (fun y1 => (LeO.bind (spec_pzText.f.br k _) (fun y2 => (LeO.bind (spec_l1Cur_one.f.br _ _ _ _) (fun y3 => (LeO.ite' (fun h0 => (LeO.bind (spec_l1Cur_spoilt.f.br k _ _ _ _ _) (fun y4 => LeO.refl _))) (fun h0 => LeO.refl _))))))))
def spec_l1Split.l0 : Nat → List UInt8 → Int → List (List UInt8) → Int → Int → Option (List (List UInt8))
 | 0, _, _, _, _, _ => none
 | k + 1, x0, x1, x5, x6, x7 => if x7 < (x0.length : Int) then (if 0 ≤ x7 then (if ((rde x0 x7).toNat : Int) = x1 then (if 0 ≤ x6 then (if x6 ≤ x7 then (if x7 ≤ (x0.length : Int) then (if x5.length < 8796093022208 then (spec_l1Split.l0 k x0 x1 (x5 ++ [((x0.take x7.toNat).drop x6.toNat)]) (IntKind.i64.wrap (x7 + 1)) (IntKind.i64.wrap (x7 + 1))) else (none)) else (none)) else (none)) else (none)) else (spec_l1Split.l0 k x0 x1 x5 x6 (IntKind.i64.wrap (x7 + 1)))) else (none)) else (if 0 ≤ x6 then (if x6 ≤ (x0.length : Int) then (if x5.length < 8796093022208 then (some (x5 ++ [(x0.drop x6.toNat)])) else (none)) else (none)) else (none))
def spec_l1Split.f (k : Nat) (x0 : List UInt8) (x1 : Int) : Option (List (List UInt8)) := spec_l1Split.l0 k x0 x1 [] 0 0
theorem spec_l1Split.br_l : ∀ k, (∀ (x0 : List UInt8) (x1 : Int) (x5 : List (List UInt8)) (x6 : Int) (x7 : Int), LeO (spec_l1Split.l0 k x0 x1 x5 x6 x7) (S.spec_l1Split.l0 x0 x1 x5 x6 x7))
 | 0 => fun _ _ _ _ _ => LeO.none _
 | k + 1 => by
  have ih := spec_l1Split.br_l k
  have ih_l0 := ih
  refine fun x0 x1 x5 x6 x7 => ?_
  ·refine LeO.of (S.spec_l1Split.l0.eq _ _ _ _ _) ?_
   show LeO (spec_l1Split.l0 (k + 1) x0 x1 x5 x6 x7) _
   unfold spec_l1Split.l0
   exact (LeO.dec (fun h0 => (LeO.tst fun h1 => (LeO.rdI h1 h0 (LeO.beq (fun h2 => (LeO.tst fun h3 => (LeO.tst fun h4 => (LeO.tst fun h5 => (LeO.subI h3 h4 h5 (LeO.tst fun h6 => (LeO.cat1 h6 (ih_l0 _ _ _ _ _)))))))) (fun h2 => (ih_l0 _ _ _ _ _)))))) (fun h0 => (LeO.tst fun h1 => (LeO.tst fun h2 => (LeO.subE h1 h2 (LeO.tst fun h3 => (LeO.cat1 h3 (LeO.refl _))))))))
theorem spec_l1Split.f.br (k : Nat) (x0 : List UInt8) (x1 : Int) : LeO (spec_l1Split.f k x0 x1) (S.spec_l1Split.f x0 x1) := by
 refine LeO.of (S.spec_l1Split.f.eq _ _) ?_
 unfold spec_l1Split.f
 have ih_l0 := (spec_l1Split.br_l k)
 exact (ih_l0 _ _ _ _ _)
mutual
def spec_l1Read.j0 : Nat → List UInt8 → Bool → Option (Int)
 | 0, _, _ => none
 | k + 1, x0, x18 => if x18 = true then (some (-1)) else (spec_l1Read.l0 k x0 0 0)
def spec_l1Read.l0 : Nat → List UInt8 → Int → Int → Option (Int)
 | 0, _, _, _ => none
 | k + 1, x0, x3, x4 => if x4 < (x0.length : Int) then (if 0 ≤ x4 then (if ((rde x0 x4).toNat : Int) < 48 then (some (-1)) else (if ((rde x0 x4).toNat : Int) > 57 then (some (-1)) else (spec_l1Read.l0 k x0 (IntKind.i64.wrap ((IntKind.i64.wrap (10 * x3)) + (IntKind.i64.wrap (IntKind.u8.wrap (((rde x0 x4).toNat : Int) - 48))))) (IntKind.i64.wrap (x4 + 1))))) else (none)) else (some x3)
end
def spec_l1Read.f (k : Nat) (x0 : List UInt8) : Option (Int) := (spec_l1In.f (x0.length : Int) 1 6).bind fun y2 => (if y2 = true then (if 0 < (x0.length : Int) then (if ((rde x0 0).toNat : Int) = 48 then (spec_l1Read.j0 k x0 (decide ((x0.length : Int) > 1))) else (spec_l1Read.j0 k x0 false)) else (none)) else (spec_l1Read.j0 k x0 true))
theorem spec_l1Read.br_l : ∀ k, (∀ (x0 : List UInt8) (x18 : Bool), LeO (spec_l1Read.j0 k x0 x18) (S.spec_l1Read.j0 x0 x18)) ∧ (∀ (x0 : List UInt8) (x3 : Int) (x4 : Int), LeO (spec_l1Read.l0 k x0 x3 x4) (S.spec_l1Read.l0 x0 x3 x4))
 | 0 => ⟨fun _ _ => LeO.none _, fun _ _ _ => LeO.none _⟩
 | k + 1 => by
  have ih := spec_l1Read.br_l k
  obtain ⟨ih_j0, ih_l0⟩ := ih
  refine ⟨fun x0 x18 => ?_, fun x0 x3 x4 => ?_⟩
  ·refine LeO.of (S.spec_l1Read.j0.eq _ _) ?_
   unfold spec_l1Read.j0
   exact (LeO.ite' (fun h0 => LeO.refl _) (fun h0 => (ih_l0 _ _ _)))
  ·refine LeO.of (S.spec_l1Read.l0.eq _ _ _) ?_
   unfold spec_l1Read.l0
   exact (LeO.dec (fun h0 => (LeO.tst fun h1 => (LeO.rdI h1 h0 (LeO.dec (fun h2 => LeO.refl _) (fun h2 => (LeO.rdI h1 h0 (LeO.dec (fun h3 => LeO.refl _) (fun h3 => (LeO.rdI h1 h0 (ih_l0 _ _ _)))))))))) (fun h0 => LeO.refl _))
theorem spec_l1Read.f.br (k : Nat) (x0 : List UInt8) : LeO (spec_l1Read.f k x0) (S.spec_l1Read.f x0) := by
 refine LeO.of (S.spec_l1Read.f.eq _) ?_
 unfold spec_l1Read.f
 have ih_j0 := (spec_l1Read.br_l k).1
 exact (LeO.bind (spec_l1In.f.br _ _ _) (fun y2 => (LeO.nob (fun h0 => (LeO.tst fun h2 => (LeO.rdI (by decide) h2 (LeO.beq (fun h3 => (ih_j0 _ _)) (fun h3 => (ih_j0 _ _)))))) (fun h0 => (ih_j0 _ _)))))
mutual
def spec_pzParse.j0 : Nat → List UInt8 → List (List UInt8) → Bool → Int → (List (Int × Int × Int)) → Option ((Int × (List (Int × Int × Int))) × Bool)
 | 0, _, _, _, _, _ => none
 | k + 1, x0, x4, x18, xb2_0, xb2_1 => if x18 = true then (some ((0, []), false)) else (if 0 < (x4.length : Int) then ((spec_l1Read.f k (rde x4 0)).bind fun y2 => (if 1 < (x4.length : Int) then (if ((rde x4 1).length : Int) > 0 then ((spec_l1Split.f k (rde x4 1) 44).bind fun y7 => (spec_pzParse.l0 k x0 y7 (y7.length : Int) 0 xb2_0 xb2_1 y2 [])) else ((spec_pzGood.f k (y2, [])).bind fun y17 => (if y17 = true then ((spec_pzText.f k (y2, [])).bind fun y18 => (some ((y2, []), (y18 == x0)))) else (some ((y2, []), false))))) else (none))) else (none))
def spec_pzParse.l0 : Nat → List UInt8 → List (List UInt8) → Int → Int → Int → (List (Int × Int × Int)) → Int → (List (Int × Int × Int)) → Option ((Int × (List (Int × Int × Int))) × Bool)
 | 0, _, _, _, _, _, _, _, _ => none
 | k + 1, x0, x33, x34, x35, xb2_0, xb2_1, xb5_0, xb5_1 => if x35 < x34 then (if 0 ≤ x35 then (if x35 < (x33.length : Int) then ((spec_l1Split.f k (rde x33 x35) 46).bind fun y3 => (if (y3.length : Int) = 3 then (if 0 < (y3.length : Int) then ((spec_l1Read.f k (rde y3 0)).bind fun y6 => (if 1 < (y3.length : Int) then ((spec_l1Read.f k (rde y3 1)).bind fun y8 => (if 2 < (y3.length : Int) then ((spec_l1Read.f k (rde y3 2)).bind fun y10 => (if xb5_1.length < 5864062014805 then (spec_pzParse.l0 k x0 x33 x34 (IntKind.i64.wrap (x35 + 1)) xb2_0 xb2_1 xb5_0 (xb5_1 ++ [(y6, y8, y10)])) else (none))) else (none))) else (none))) else (none)) else (some ((0, []), false)))) else (none)) else (none)) else ((spec_pzGood.f k (xb5_0, xb5_1)).bind fun y13 => (if y13 = true then ((spec_pzText.f k (xb5_0, xb5_1)).bind fun y14 => (some ((xb5_0, xb5_1), (y14 == x0)))) else (some ((xb5_0, xb5_1), false))))
end
def spec_pzParse.f (k : Nat) (x0 : List UInt8) : Option ((Int × (List (Int × Int × Int))) × Bool) := (spec_l1Split.f k x0 97).bind fun y1 => (if (x0.length : Int) > 60 then (spec_pzParse.j0 k x0 y1 true 0 []) else (spec_pzParse.j0 k x0 y1 ((y1.length : Int) != 2) 0 []))
theorem spec_pzParse.br_l : ∀ k, (∀ (x0 : List UInt8) (x4 : List (List UInt8)) (x18 : Bool) (xb2_0 : Int) (xb2_1 : List (Int × Int × Int)), LeO (spec_pzParse.j0 k x0 x4 x18 xb2_0 xb2_1) (S.spec_pzParse.j0 x0 x4 x18 xb2_0 xb2_1)) ∧ (∀ (x0 : List UInt8) (x33 : List (List UInt8)) (x34 : Int) (x35 : Int) (xb2_0 : Int) (xb2_1 : List (Int × Int × Int)) (xb5_0 : Int) (xb5_1 : List (Int × Int × Int)), LeO (spec_pzParse.l0 k x0 x33 x34 x35 xb2_0 xb2_1 xb5_0 xb5_1) (S.spec_pzParse.l0 x0 x33 x34 x35 xb2_0 xb2_1 xb5_0 xb5_1))
 | 0 => ⟨fun _ _ _ _ _ => LeO.none _, fun _ _ _ _ _ _ _ _ => LeO.none _⟩
 | k + 1 => by
  have ih := spec_pzParse.br_l k
  obtain ⟨ih_j0, ih_l0⟩ := ih
  refine ⟨fun x0 x4 x18 xb2_0 xb2_1 => ?_, fun x0 x33 x34 x35 xb2_0 xb2_1 xb5_0 xb5_1 => ?_⟩
  ·refine LeO.of (S.spec_pzParse.j0.eq _ _ _ _ _) ?_
   unfold spec_pzParse.j0
   exact (LeO.ite' (fun h0 => LeO.refl _) (fun h0 => (LeO.tst fun h2 => (LeO.rdI (by decide) h2 (LeO.bind (spec_l1Read.f.br k _) (fun y2 => (LeO.tst fun h4 => (LeO.rdI (by decide) h4 (LeO.dec (fun h5 => (LeO.rdI (by decide) h4 (LeO.bind (spec_l1Split.f.br k _ _) (fun y7 => (ih_l0 _ _ _ _ _ _ _ _))))) (fun h5 => (LeO.bind (spec_pzGood.f.br k _) (fun y17 => (LeO.ite' (fun h6 => (LeO.bind (spec_pzText.f.br k _) (fun y18 => LeO.refl _))) (fun h6 => LeO.refl _))))))))))))))
  ·refine LeO.of (S.spec_pzParse.l0.eq _ _ _ _ _ _ _ _) ?_
   unfold spec_pzParse.l0
   exact (LeO.dec (fun h0 => (LeO.tst fun h1 => (LeO.tst fun h2 => (LeO.rdI h1 h2 (LeO.bind (spec_l1Split.f.br k _ _) (fun y3 => (LeO.bne (fun h3 => (LeO.tst fun h5 => (LeO.rdI (by decide) h5 (LeO.bind (spec_l1Read.f.br k _) (fun y6 => (LeO.tst fun h7 => (LeO.rdI (by decide) h7 (LeO.bind (spec_l1Read.f.br k _) (fun y8 => (LeO.tst fun h9 => (LeO.rdI (by decide) h9 (LeO.bind (spec_l1Read.f.br k _) (fun y10 => (LeO.tst fun h10 => (LeO.cat1 h10 (ih_l0 _ _ _ _ _ _ _ _)))))))))))))))) (fun h3 => LeO.refl _)))))))) (fun h0 => (LeO.bind (spec_pzGood.f.br k _) (fun y13 => (LeO.ite' (fun h1 => (LeO.bind (spec_pzText.f.br k _) (fun y14 => LeO.refl _))) (fun h1 => LeO.refl _))))))
theorem spec_pzParse.f.br (k : Nat) (x0 : List UInt8) : LeO (spec_pzParse.f k x0) (S.spec_pzParse.f x0) := by
 refine LeO.of (S.spec_pzParse.f.eq _) ?_
 unfold spec_pzParse.f
 have ih_j0 := (spec_pzParse.br_l k).1
 exact (LeO.bind (spec_l1Split.f.br k _ _) (fun y1 => (LeO.dec (fun h0 => (ih_j0 _ _ _ _ _)) (fun h0 => (ih_j0 _ _ _ _ _)))))
def spec_ParsePuzzle.f (k : Nat) (x0 : List UInt8) : Option ((Int × (List (Int × Int × Int))) × Bool) := (spec_pzParse.f k x0).bind fun y1 => (if y1.2 = true then (some ((y1.1.1, y1.1.2), true)) else (some ((0, []), false)))
theorem spec_ParsePuzzle.f.br (k : Nat) (x0 : List UInt8) : LeO (spec_ParsePuzzle.f k x0) (S.spec_ParsePuzzle.f x0) := by
 refine LeO.of (S.spec_ParsePuzzle.f.eq _) ?_
 unfold spec_ParsePuzzle.f
 exact (LeO.bind (spec_pzParse.f.br k _) (fun y1 => (LeO.nob (fun h0 => LeO.refl _) (fun h0 => LeO.refl _))))
mutual
def laws_FnAgesGuessed.j0 : Nat → List Int → List (List Int) → Bool → List (List Int) → Bool → Int → Bool → Int → Bool → List Int → Bool → List Int → Bool → List Int → Bool → List Int → Bool → Int → (List (Int × Int × Int)) → Option (Bool)
 | 0, _, _, _, _, _, _, _, _, _, _, _, _, _, _, _, _, _, _, _ => none
 | k + 1, x1, x6, x7, x8, x9, x10, x11, x12, x13, x14, x15, x16, x17, x18, x19, x20, x21, xb5_0, xb5_1 => (impl_IsSolved.f k (xb5_0, xb5_1)).bind fun y1 => ((spec_IsSolved.f k (xb5_0, xb5_1)).bind fun y2 => ((impl_NeedlessClues.f k (xb5_0, xb5_1)).bind fun y3 => ((spec_NeedlessClues.f k (xb5_0, xb5_1)).bind fun y4 => ((impl_LeftByClues.f k (xb5_0, xb5_1)).bind fun y5 => ((spec_LeftByClues.f k (xb5_0, xb5_1)).bind fun y6 => ((impl_BestClue.f k (xb5_0, xb5_1)).bind fun y7 => ((spec_BestClue.f k (xb5_0, xb5_1)).bind fun y8 => ((impl_PuzzleText.f k (xb5_0, xb5_1)).bind fun y9 => ((spec_PuzzleText.f k (xb5_0, xb5_1)).bind fun y10 => (laws_FnAgesGuessed.j1 k x1 x6 x7 x8 x9 x10 x11 x12 x13 x14 x15 x16 x17 x18 x19 x20 x21 y1.1 y1.2 y2.1 y2.2 y3.1 y3.2 y4.1 y4.2 y5.1 y5.2 y6.1 y6.2 y7.1 y7.2 y8.1 y8.2 y9.1 y9.2 y10.1 y10.2 xb5_0 xb5_1))))))))))
def laws_FnAgesGuessed.j1 : Nat → List Int → List (List Int) → Bool → List (List Int) → Bool → Int → Bool → Int → Bool → List Int → Bool → List Int → Bool → List Int → Bool → List Int → Bool → Bool → Bool → Bool → Bool → List Int → Bool → List Int → Bool → List Int → Bool → List Int → Bool → Int → Bool → Int → Bool → List UInt8 → Bool → List UInt8 → Bool → Int → (List (Int × Int × Int)) → Option (Bool)
 | 0, _, _, _, _, _, _, _, _, _, _, _, _, _, _, _, _, _, _, _, _, _, _, _, _, _, _, _, _, _, _, _, _, _, _, _, _, _, _, _ => none
 | k + 1, x1, x6, x7, x8, x9, x10, x11, x12, x13, x14, x15, x16, x17, x18, x19, x20, x21, x22, x23, x24, x25, x26, x27, x28, x29, x30, x31, x32, x33, x34, x35, x36, x37, x38, x39, x40, x41, xb5_0, xb5_1 => if (x7 != x9) = true then (laws_FnAgesGuessed.m0 k x1 x6 x7 x10 x11 x14 x15 x16 x18 x19 x20 x21 x22 x23 x24 x25 x26 x27 x28 x29 x30 x31 x32 x33 x34 x35 x36 x37 x38 x39 x40 x41 xb5_0 xb5_1) else ((laws_qRows.f k x6 x8).bind fun y90 => (if y90 = true then (if (x11 != x13) = true then (laws_FnAgesGuessed.m0 k x1 x6 x7 x10 x11 x14 x15 x16 x18 x19 x20 x21 x22 x23 x24 x25 x26 x27 x28 x29 x30 x31 x32 x33 x34 x35 x36 x37 x38 x39 x40 x41 xb5_0 xb5_1) else (if x10 = x12 then (if (x15 != x17) = true then (laws_FnAgesGuessed.m0 k x1 x6 x7 x10 x11 x14 x15 x16 x18 x19 x20 x21 x22 x23 x24 x25 x26 x27 x28 x29 x30 x31 x32 x33 x34 x35 x36 x37 x38 x39 x40 x41 xb5_0 xb5_1) else (laws_FnAgesGuessed.m5 k x1 x6 x7 x10 x11 x14 x15 x16 x18 x19 x20 x21 x22 x23 x24 x25 x26 x27 x28 x29 x30 x31 x32 x33 x34 x35 x36 x37 x38 x39 x40 x41 xb5_0 xb5_1)) else (laws_FnAgesGuessed.m0 k x1 x6 x7 x10 x11 x14 x15 x16 x18 x19 x20 x21 x22 x23 x24 x25 x26 x27 x28 x29 x30 x31 x32 x33 x34 x35 x36 x37 x38 x39 x40 x41 xb5_0 xb5_1))) else (laws_FnAgesGuessed.m0 k x1 x6 x7 x10 x11 x14 x15 x16 x18 x19 x20 x21 x22 x23 x24 x25 x26 x27 x28 x29 x30 x31 x32 x33 x34 x35 x36 x37 x38 x39 x40 x41 xb5_0 xb5_1)))
def laws_FnAgesGuessed.m0 : Nat → List Int → List (List Int) → Bool → Int → Bool → List Int → Bool → List Int → List Int → Bool → List Int → Bool → Bool → Bool → Bool → Bool → List Int → Bool → List Int → Bool → List Int → Bool → List Int → Bool → Int → Bool → Int → Bool → List UInt8 → Bool → List UInt8 → Bool → Int → (List (Int × Int × Int)) → Option (Bool)
 | 0, _, _, _, _, _, _, _, _, _, _, _, _, _, _, _, _, _, _, _, _, _, _, _, _, _, _, _, _, _, _, _, _, _, _ => none
 | k + 1, x1, x6, x7, x10, x11, x14, x15, x16, x18, x19, x20, x21, x22, x23, x24, x25, x26, x27, x28, x29, x30, x31, x32, x33, x34, x35, x36, x37, x38, x39, x40, x41, xb5_0, xb5_1 => laws_FnAgesGuessed.m1 k x1 x6 x7 x10 x11 x14 x15 x18 x19 x22 x23 x26 x27 x28 x29 x30 x31 x32 x33 x34 x35 x36 x37 x38 x39 x40 x41 xb5_0 xb5_1
def laws_FnAgesGuessed.m1 : Nat → List Int → List (List Int) → Bool → Int → Bool → List Int → Bool → List Int → Bool → Bool → Bool → List Int → Bool → List Int → Bool → List Int → Bool → List Int → Bool → Int → Bool → Int → Bool → List UInt8 → Bool → List UInt8 → Bool → Int → (List (Int × Int × Int)) → Option (Bool)
 | 0, _, _, _, _, _, _, _, _, _, _, _, _, _, _, _, _, _, _, _, _, _, _, _, _, _, _, _, _, _ => none
 | k + 1, x1, x6, x7, x10, x11, x14, x15, x18, x19, x22, x23, x26, x27, x28, x29, x30, x31, x32, x33, x34, x35, x36, x37, x38, x39, x40, x41, xb5_0, xb5_1 => laws_FnAgesGuessed.m2 k x1 x6 x7 x10 x11 x14 x15 x18 x19 x22 x23 x26 x27 x30 x31 x34 x35 x36 x38 x39 x40 x41 xb5_0 xb5_1
def laws_FnAgesGuessed.m2 : Nat → List Int → List (List Int) → Bool → Int → Bool → List Int → Bool → List Int → Bool → Bool → Bool → List Int → Bool → List Int → Bool → Int → Bool → Int → List UInt8 → Bool → List UInt8 → Bool → Int → (List (Int × Int × Int)) → Option (Bool)
 | 0, _, _, _, _, _, _, _, _, _, _, _, _, _, _, _, _, _, _, _, _, _, _, _, _ => none
 | k + 1, x1, x6, x7, x10, x11, x14, x15, x18, x19, x22, x23, x26, x27, x30, x31, x34, x35, x36, x38, x39, x40, x41, xb5_0, xb5_1 => laws_FnAgesGuessed.m3 k x1 x6 x7 x10 x11 x14 x15 x18 x19 x22 x23 x26 x27 x30 x31 x34 x35 x38 x39 xb5_0 xb5_1
def laws_FnAgesGuessed.m3 : Nat → List Int → List (List Int) → Bool → Int → Bool → List Int → Bool → List Int → Bool → Bool → Bool → List Int → Bool → List Int → Bool → Int → Bool → List UInt8 → Bool → Int → (List (Int × Int × Int)) → Option (Bool)
 | 0, _, _, _, _, _, _, _, _, _, _, _, _, _, _, _, _, _, _, _, _, _ => none
 | k + 1, x1, x6, x7, x10, x11, x14, x15, x18, x19, x22, x23, x26, x27, x30, x31, x34, x35, x38, x39, xb5_0, xb5_1 => laws_FnAgesGuessed.m4 k x1 x6 x7 x10 x14 x15 x18 x22 x26 x30 x31 x34 x35 x38 x39 xb5_0 xb5_1
def laws_FnAgesGuessed.m4 : Nat → List Int → List (List Int) → Bool → Int → List Int → Bool → List Int → Bool → List Int → List Int → Bool → Int → Bool → List UInt8 → Bool → Int → (List (Int × Int × Int)) → Option (Bool)
 | 0, _, _, _, _, _, _, _, _, _, _, _, _, _, _, _, _, _ => none
 | k + 1, x1, x6, x7, x10, x14, x15, x18, x22, x26, x30, x31, x34, x35, x38, x39, xb5_0, xb5_1 => laws_FnAgesGuessed.j2 k x1 x6 x7 x10 x14 x15 x18 x22 x26 x30 x34 x38 true xb5_0 xb5_1
def laws_FnAgesGuessed.j2 : Nat → List Int → List (List Int) → Bool → Int → List Int → Bool → List Int → Bool → List Int → List Int → Int → List UInt8 → Bool → Int → (List (Int × Int × Int)) → Option (Bool)
 | 0, _, _, _, _, _, _, _, _, _, _, _, _, _, _, _ => none
 | k + 1, x1, x6, x7, x10, x14, x15, x18, x22, x26, x30, x34, x38, x316, xb5_0, xb5_1 => if x316 = true then (some false) else (if x7 = true then (laws_FnAgesGuessed.l0 k x1 x6 x10 x14 x15 x18 x22 x26 x30 x34 x38 1 0 xb5_0 xb5_1) else (laws_FnAgesGuessed.j6 k x1))
def laws_FnAgesGuessed.l0 : Nat → List Int → List (List Int) → Int → List Int → Bool → List Int → Bool → List Int → List Int → Int → List UInt8 → Int → Int → Int → (List (Int × Int × Int)) → Option (Bool)
 | 0, _, _, _, _, _, _, _, _, _, _, _, _, _, _, _ => none
 | k + 1, x1, x6, x10, x14, x15, x18, x22, x26, x30, x34, x38, x42, x43, xb5_0, xb5_1 => if x43 < xb5_0 then (laws_FnAgesGuessed.l0 k x1 x6 x10 x14 x15 x18 x22 x26 x30 x34 x38 (IntKind.i64.wrap (x42 * 12)) (IntKind.i64.wrap (x43 + 1)) xb5_0 xb5_1) else (if (x6.length : Int) = x10 then (if x15 = true then (if 0 < (x6.length : Int) then ((laws_qSame.f k x14 (rde x6 0)).bind fun y21 => (if y21 = true then (if (x22 != (x10 == 1)) = true then (laws_FnAgesGuessed.j3 k x1 x6 x10 x18 x26 x30 x34 x38 true xb5_0 xb5_1) else (if (x30.length : Int) = (IntKind.i64.wrap ((xb5_1.length : Int) + 1)) then (if 0 < (x30.length : Int) then (if (rde x30 0) = x42 then (if 0 ≤ (xb5_1.length : Int) then (if (xb5_1.length : Int) < (x30.length : Int) then (if (rde x30 (xb5_1.length : Int)) = x10 then (if x22 = true then ((laws_qSame.f k x18 x14).bind fun y38 => (if y38 = true then (if (x18.length : Int) = xb5_0 then ((laws_qOrdered.f k x6).bind fun y45 => (laws_FnAgesGuessed.j3 k x1 x6 x10 x18 x26 x30 x34 x38 (!y45) xb5_0 xb5_1)) else (laws_FnAgesGuessed.j3 k x1 x6 x10 x18 x26 x30 x34 x38 true xb5_0 xb5_1)) else (laws_FnAgesGuessed.j3 k x1 x6 x10 x18 x26 x30 x34 x38 true xb5_0 xb5_1))) else (if (x18.length : Int) = xb5_0 then ((laws_qOrdered.f k x6).bind fun y53 => (laws_FnAgesGuessed.j3 k x1 x6 x10 x18 x26 x30 x34 x38 (!y53) xb5_0 xb5_1)) else (laws_FnAgesGuessed.j3 k x1 x6 x10 x18 x26 x30 x34 x38 true xb5_0 xb5_1))) else (laws_FnAgesGuessed.j3 k x1 x6 x10 x18 x26 x30 x34 x38 true xb5_0 xb5_1)) else (none)) else (none)) else (laws_FnAgesGuessed.j3 k x1 x6 x10 x18 x26 x30 x34 x38 true xb5_0 xb5_1)) else (none)) else (laws_FnAgesGuessed.j3 k x1 x6 x10 x18 x26 x30 x34 x38 true xb5_0 xb5_1))) else (laws_FnAgesGuessed.j3 k x1 x6 x10 x18 x26 x30 x34 x38 true xb5_0 xb5_1))) else (none)) else (if (x22 != (x10 == 1)) = true then (laws_FnAgesGuessed.j3 k x1 x6 x10 x18 x26 x30 x34 x38 true xb5_0 xb5_1) else (if (x30.length : Int) = (IntKind.i64.wrap ((xb5_1.length : Int) + 1)) then (if 0 < (x30.length : Int) then (if (rde x30 0) = x42 then (if 0 ≤ (xb5_1.length : Int) then (if (xb5_1.length : Int) < (x30.length : Int) then (if (rde x30 (xb5_1.length : Int)) = x10 then (if x22 = true then ((laws_qSame.f k x18 x14).bind fun y71 => (if y71 = true then ((laws_qOrdered.f k x6).bind fun y80 => (laws_FnAgesGuessed.j3 k x1 x6 x10 x18 x26 x30 x34 x38 (!y80) xb5_0 xb5_1)) else (laws_FnAgesGuessed.j3 k x1 x6 x10 x18 x26 x30 x34 x38 true xb5_0 xb5_1))) else ((laws_qOrdered.f k x6).bind fun y88 => (laws_FnAgesGuessed.j3 k x1 x6 x10 x18 x26 x30 x34 x38 (!y88) xb5_0 xb5_1))) else (laws_FnAgesGuessed.j3 k x1 x6 x10 x18 x26 x30 x34 x38 true xb5_0 xb5_1)) else (none)) else (none)) else (laws_FnAgesGuessed.j3 k x1 x6 x10 x18 x26 x30 x34 x38 true xb5_0 xb5_1)) else (none)) else (laws_FnAgesGuessed.j3 k x1 x6 x10 x18 x26 x30 x34 x38 true xb5_0 xb5_1)))) else (laws_FnAgesGuessed.j3 k x1 x6 x10 x18 x26 x30 x34 x38 true xb5_0 xb5_1))
def laws_FnAgesGuessed.j3 : Nat → List Int → List (List Int) → Int → List Int → List Int → List Int → Int → List UInt8 → Bool → Int → (List (Int × Int × Int)) → Option (Bool)
 | 0, _, _, _, _, _, _, _, _, _, _, _ => none
 | k + 1, x1, x6, x10, x18, x26, x30, x34, x38, x396, xb5_0, xb5_1 => if x396 = true then (some false) else (laws_FnAgesGuessed.l1 k x1 x6 x10 x18 x26 x30 x34 x38 (x6.length : Int) 0 xb5_0 xb5_1)
def laws_FnAgesGuessed.l1 : Nat → List Int → List (List Int) → Int → List Int → List Int → List Int → Int → List UInt8 → Int → Int → Int → (List (Int × Int × Int)) → Option (Bool)
 | 0, _, _, _, _, _, _, _, _, _, _, _, _ => none
 | k + 1, x1, x6, x10, x18, x26, x30, x34, x38, x398, x399, xb5_0, xb5_1 => if x399 < x398 then (if 0 ≤ x399 then (if x399 < (x6.length : Int) then (if ((rde x6 x399).length : Int) = xb5_0 then ((impl_AreAges.f (rde x6 x399)).bind fun y11 => (laws_FnAgesGuessed.j4 k x1 x6 x10 x18 x26 x30 x34 x38 x399 (rde x6 x399) x398 x399 (!y11) xb5_0 xb5_1)) else (laws_FnAgesGuessed.j4 k x1 x6 x10 x18 x26 x30 x34 x38 x399 (rde x6 x399) x398 x399 true xb5_0 xb5_1)) else (none)) else (none)) else (laws_FnAgesGuessed.l4 k x1 x10 x26 x30 x34 x38 (xb5_1.length : Int) 0 xb5_0 xb5_1)
def laws_FnAgesGuessed.j4 : Nat → List Int → List (List Int) → Int → List Int → List Int → List Int → Int → List UInt8 → Int → List Int → Int → Int → Bool → Int → (List (Int × Int × Int)) → Option (Bool)
 | 0, _, _, _, _, _, _, _, _, _, _, _, _, _, _, _ => none
 | k + 1, x1, x6, x10, x18, x26, x30, x34, x38, x44, x45, x398, x399, x413, xb5_0, xb5_1 => if x413 = true then (some false) else (laws_FnAgesGuessed.l2 k x1 x6 x10 x18 x26 x30 x34 x38 x44 x45 x398 x399 (x18.length : Int) 0 xb5_0 xb5_1)
def laws_FnAgesGuessed.l2 : Nat → List Int → List (List Int) → Int → List Int → List Int → List Int → Int → List UInt8 → Int → List Int → Int → Int → Int → Int → Int → (List (Int × Int × Int)) → Option (Bool)
 | 0, _, _, _, _, _, _, _, _, _, _, _, _, _, _, _, _ => none
 | k + 1, x1, x6, x10, x18, x26, x30, x34, x38, x44, x45, x398, x399, x415, x416, xb5_0, xb5_1 => if x416 < x415 then (if 0 ≤ x416 then (if x416 < (x18.length : Int) then (if (rde x18 x416) ≥ 0 then (if x416 < (x45.length : Int) then (if (rde x45 x416) = (rde x18 x416) then (laws_FnAgesGuessed.l2 k x1 x6 x10 x18 x26 x30 x34 x38 x44 x45 x398 x399 x415 (IntKind.i64.wrap (x416 + 1)) xb5_0 xb5_1) else (some false)) else (none)) else (laws_FnAgesGuessed.l2 k x1 x6 x10 x18 x26 x30 x34 x38 x44 x45 x398 x399 x415 (IntKind.i64.wrap (x416 + 1)) xb5_0 xb5_1)) else (none)) else (none)) else (if x44 > 40 then (laws_FnAgesGuessed.l1 k x1 x6 x10 x18 x26 x30 x34 x38 x398 (IntKind.i64.wrap (x399 + 1)) xb5_0 xb5_1) else (laws_FnAgesGuessed.l3 k x1 x6 x10 x18 x26 x30 x34 x38 x45 x398 x399 xb5_1 (xb5_1.length : Int) 0 xb5_0 xb5_1))
def laws_FnAgesGuessed.l3 : Nat → List Int → List (List Int) → Int → List Int → List Int → List Int → Int → List UInt8 → List Int → Int → Int → (List (Int × Int × Int)) → Int → Int → Int → (List (Int × Int × Int)) → Option (Bool)
 | 0, _, _, _, _, _, _, _, _, _, _, _, _, _, _, _, _ => none
 | k + 1, x1, x6, x10, x18, x26, x30, x34, x38, x45, x398, x399, x435, x436, x437, xb5_0, xb5_1 => if x437 < x436 then (if 0 ≤ x437 then (if x437 < (x435.length : Int) then ((impl_DoesFit.f k ((rde x435 x437).1, (rde x435 x437).2.1, (rde x435 x437).2.2) x45).bind fun y3 => (if y3.2 = true then (if y3.1 = true then (laws_FnAgesGuessed.l3 k x1 x6 x10 x18 x26 x30 x34 x38 x45 x398 x399 x435 x436 (IntKind.i64.wrap (x437 + 1)) xb5_0 xb5_1) else (some false)) else (some false))) else (none)) else (none)) else (laws_FnAgesGuessed.l1 k x1 x6 x10 x18 x26 x30 x34 x38 x398 (IntKind.i64.wrap (x399 + 1)) xb5_0 xb5_1)
def laws_FnAgesGuessed.l4 : Nat → List Int → Int → List Int → List Int → Int → List UInt8 → Int → Int → Int → (List (Int × Int × Int)) → Option (Bool)
 | 0, _, _, _, _, _, _, _, _, _, _ => none
 | k + 1, x1, x10, x26, x30, x34, x38, x457, x458, xb5_0, xb5_1 => if x458 < x457 then ((impl_DropClue.f k (xb5_0, xb5_1) x458).bind fun y2 => ((impl_CountSolutions.f k (y2.1.1, y2.1.2)).bind fun y3 => (laws_FnAgesGuessed.j5 k x1 x10 x26 x30 x34 x38 x458 y2.2 y3.1 y3.2 x457 x458 xb5_0 xb5_1))) else ((impl_ParsePuzzle.f k x38).bind fun y17 => (if y17.2 = true then ((laws_qPuzzle.f k (y17.1.1, y17.1.2) (xb5_0, xb5_1)).bind fun y18 => (if y18 = true then (laws_FnAgesGuessed.j6 k x1) else (some false))) else (some false)))
def laws_FnAgesGuessed.j5 : Nat → List Int → Int → List Int → List Int → Int → List UInt8 → Int → Bool → Int → Bool → Int → Int → Int → (List (Int × Int × Int)) → Option (Bool)
 | 0, _, _, _, _, _, _, _, _, _, _, _, _, _, _ => none
 | k + 1, x1, x10, x26, x30, x34, x38, x52, x54, x55, x56, x457, x458, xb5_0, xb5_1 => if x54 = true then (if x56 = true then ((laws_qHas.f k x26 x52).bind fun y2 => (if (y2 != (x55 == x10)) = true then (some false) else (if 0 ≤ (IntKind.i64.wrap (x52 + 1)) then (if (IntKind.i64.wrap (x52 + 1)) < (x30.length : Int) then (if 0 ≤ x52 then (if x52 < (x30.length : Int) then (if (rde x30 (IntKind.i64.wrap (x52 + 1))) > (rde x30 x52) then (some false) else (if x34 < 0 then (some false) else (if x34 ≥ (xb5_1.length : Int) then (some false) else (laws_FnAgesGuessed.l4 k x1 x10 x26 x30 x34 x38 x457 (IntKind.i64.wrap (x458 + 1)) xb5_0 xb5_1)))) else (none)) else (none)) else (none)) else (none)))) else (some false)) else (some false)
def laws_FnAgesGuessed.j6 : Nat → List Int → Option (Bool)
 | 0, _ => none
 | k + 1, x1 => (spec_DrawParsePuzzle.f k x1).bind fun y1 => ((impl_ParsePuzzle.f k y1).bind fun y2 => (laws_FnAgesGuessed.j7 k y1 y2.2 y2.1.1 y2.1.2))
def laws_FnAgesGuessed.j7 : Nat → List UInt8 → Bool → Int → (List (Int × Int × Int)) → Option (Bool)
 | 0, _, _, _, _ => none
 | k + 1, x59, x61, xb60_0, xb60_1 => (spec_ParsePuzzle.f k x59).bind fun y1 => (if (x61 != y1.2) = true then (laws_FnAgesGuessed.j8 k x59 x61 true xb60_0 xb60_1) else ((laws_qPuzzle.f k (xb60_0, xb60_1) (y1.1.1, y1.1.2)).bind fun y4 => (laws_FnAgesGuessed.j8 k x59 x61 (!y4) xb60_0 xb60_1)))
def laws_FnAgesGuessed.j8 : Nat → List UInt8 → Bool → Bool → Int → (List (Int × Int × Int)) → Option (Bool)
 | 0, _, _, _, _, _ => none
 | k + 1, x59, x61, x544, xb60_0, xb60_1 => if x544 = true then (some false) else (if x61 = true then ((impl_PuzzleText.f k (xb60_0, xb60_1)).bind fun y1 => (if y1.2 = true then (some (y1.1 == x59)) else (some false))) else (some true))
def laws_FnAgesGuessed.m5 : Nat → List Int → List (List Int) → Bool → Int → Bool → List Int → Bool → List Int → List Int → Bool → List Int → Bool → Bool → Bool → Bool → Bool → List Int → Bool → List Int → Bool → List Int → Bool → List Int → Bool → Int → Bool → Int → Bool → List UInt8 → Bool → List UInt8 → Bool → Int → (List (Int × Int × Int)) → Option (Bool)
 | 0, _, _, _, _, _, _, _, _, _, _, _, _, _, _, _, _, _, _, _, _, _, _, _, _, _, _, _, _, _, _, _, _, _, _ => none
 | k + 1, x1, x6, x7, x10, x11, x14, x15, x16, x18, x19, x20, x21, x22, x23, x24, x25, x26, x27, x28, x29, x30, x31, x32, x33, x34, x35, x36, x37, x38, x39, x40, x41, xb5_0, xb5_1 => (laws_qSame.f k x14 x16).bind fun y1 => (if y1 = true then (if (x19 != x21) = true then (laws_FnAgesGuessed.m1 k x1 x6 x7 x10 x11 x14 x15 x18 x19 x22 x23 x26 x27 x28 x29 x30 x31 x32 x33 x34 x35 x36 x37 x38 x39 x40 x41 xb5_0 xb5_1) else ((laws_qSame.f k x18 x20).bind fun y5 => (if y5 = true then (if (x23 != x25) = true then (laws_FnAgesGuessed.m1 k x1 x6 x7 x10 x11 x14 x15 x18 x19 x22 x23 x26 x27 x28 x29 x30 x31 x32 x33 x34 x35 x36 x37 x38 x39 x40 x41 xb5_0 xb5_1) else (if (x22 != x24) = true then (laws_FnAgesGuessed.m1 k x1 x6 x7 x10 x11 x14 x15 x18 x19 x22 x23 x26 x27 x28 x29 x30 x31 x32 x33 x34 x35 x36 x37 x38 x39 x40 x41 xb5_0 xb5_1) else (laws_FnAgesGuessed.m6 k x1 x6 x7 x10 x11 x14 x15 x18 x19 x22 x23 x26 x27 x28 x29 x30 x31 x32 x33 x34 x35 x36 x37 x38 x39 x40 x41 xb5_0 xb5_1))) else (laws_FnAgesGuessed.m1 k x1 x6 x7 x10 x11 x14 x15 x18 x19 x22 x23 x26 x27 x28 x29 x30 x31 x32 x33 x34 x35 x36 x37 x38 x39 x40 x41 xb5_0 xb5_1)))) else (laws_FnAgesGuessed.m1 k x1 x6 x7 x10 x11 x14 x15 x18 x19 x22 x23 x26 x27 x28 x29 x30 x31 x32 x33 x34 x35 x36 x37 x38 x39 x40 x41 xb5_0 xb5_1))
def laws_FnAgesGuessed.m6 : Nat → List Int → List (List Int) → Bool → Int → Bool → List Int → Bool → List Int → Bool → Bool → Bool → List Int → Bool → List Int → Bool → List Int → Bool → List Int → Bool → Int → Bool → Int → Bool → List UInt8 → Bool → List UInt8 → Bool → Int → (List (Int × Int × Int)) → Option (Bool)
 | 0, _, _, _, _, _, _, _, _, _, _, _, _, _, _, _, _, _, _, _, _, _, _, _, _, _, _, _, _, _ => none
 | k + 1, x1, x6, x7, x10, x11, x14, x15, x18, x19, x22, x23, x26, x27, x28, x29, x30, x31, x32, x33, x34, x35, x36, x37, x38, x39, x40, x41, xb5_0, xb5_1 => if (x27 != x29) = true then (laws_FnAgesGuessed.m2 k x1 x6 x7 x10 x11 x14 x15 x18 x19 x22 x23 x26 x27 x30 x31 x34 x35 x36 x38 x39 x40 x41 xb5_0 xb5_1) else ((laws_qSame.f k x26 x28).bind fun y3 => (if y3 = true then (if (x31 != x33) = true then (laws_FnAgesGuessed.m2 k x1 x6 x7 x10 x11 x14 x15 x18 x19 x22 x23 x26 x27 x30 x31 x34 x35 x36 x38 x39 x40 x41 xb5_0 xb5_1) else ((laws_qSame.f k x30 x32).bind fun y7 => (if y7 = true then (if (x35 != x37) = true then (laws_FnAgesGuessed.m2 k x1 x6 x7 x10 x11 x14 x15 x18 x19 x22 x23 x26 x27 x30 x31 x34 x35 x36 x38 x39 x40 x41 xb5_0 xb5_1) else (laws_FnAgesGuessed.m7 k x1 x6 x7 x10 x11 x14 x15 x18 x19 x22 x23 x26 x27 x30 x31 x34 x35 x36 x38 x39 x40 x41 xb5_0 xb5_1)) else (laws_FnAgesGuessed.m2 k x1 x6 x7 x10 x11 x14 x15 x18 x19 x22 x23 x26 x27 x30 x31 x34 x35 x36 x38 x39 x40 x41 xb5_0 xb5_1)))) else (laws_FnAgesGuessed.m2 k x1 x6 x7 x10 x11 x14 x15 x18 x19 x22 x23 x26 x27 x30 x31 x34 x35 x36 x38 x39 x40 x41 xb5_0 xb5_1)))
def laws_FnAgesGuessed.m7 : Nat → List Int → List (List Int) → Bool → Int → Bool → List Int → Bool → List Int → Bool → Bool → Bool → List Int → Bool → List Int → Bool → Int → Bool → Int → List UInt8 → Bool → List UInt8 → Bool → Int → (List (Int × Int × Int)) → Option (Bool)
 | 0, _, _, _, _, _, _, _, _, _, _, _, _, _, _, _, _, _, _, _, _, _, _, _, _ => none
 | k + 1, x1, x6, x7, x10, x11, x14, x15, x18, x19, x22, x23, x26, x27, x30, x31, x34, x35, x36, x38, x39, x40, x41, xb5_0, xb5_1 => if x34 = x36 then (if (x39 != x41) = true then (laws_FnAgesGuessed.m3 k x1 x6 x7 x10 x11 x14 x15 x18 x19 x22 x23 x26 x27 x30 x31 x34 x35 x38 x39 xb5_0 xb5_1) else (if (x38 != x40) = true then (laws_FnAgesGuessed.m3 k x1 x6 x7 x10 x11 x14 x15 x18 x19 x22 x23 x26 x27 x30 x31 x34 x35 x38 x39 xb5_0 xb5_1) else ((impl_IsPuzzle.f k (xb5_0, xb5_1)).bind fun y7 => (if (x7 != y7) = true then (laws_FnAgesGuessed.m3 k x1 x6 x7 x10 x11 x14 x15 x18 x19 x22 x23 x26 x27 x30 x31 x34 x35 x38 x39 xb5_0 xb5_1) else ((impl_IsPuzzle.f k (xb5_0, xb5_1)).bind fun y10 => ((spec_IsPuzzle.f k (xb5_0, xb5_1)).bind fun y11 => (if (y10 != y11) = true then (laws_FnAgesGuessed.m3 k x1 x6 x7 x10 x11 x14 x15 x18 x19 x22 x23 x26 x27 x30 x31 x34 x35 x38 x39 xb5_0 xb5_1) else (laws_FnAgesGuessed.m8 k x1 x6 x7 x10 x11 x14 x15 x18 x19 x22 x23 x26 x27 x30 x31 x34 x35 x38 x39 xb5_0 xb5_1)))))))) else (laws_FnAgesGuessed.m3 k x1 x6 x7 x10 x11 x14 x15 x18 x19 x22 x23 x26 x27 x30 x31 x34 x35 x38 x39 xb5_0 xb5_1)
def laws_FnAgesGuessed.m8 : Nat → List Int → List (List Int) → Bool → Int → Bool → List Int → Bool → List Int → Bool → Bool → Bool → List Int → Bool → List Int → Bool → Int → Bool → List UInt8 → Bool → Int → (List (Int × Int × Int)) → Option (Bool)
 | 0, _, _, _, _, _, _, _, _, _, _, _, _, _, _, _, _, _, _, _, _, _ => none
 | k + 1, x1, x6, x7, x10, x11, x14, x15, x18, x19, x22, x23, x26, x27, x30, x31, x34, x35, x38, x39, xb5_0, xb5_1 => if (x11 != x7) = true then (laws_FnAgesGuessed.m4 k x1 x6 x7 x10 x14 x15 x18 x22 x26 x30 x31 x34 x35 x38 x39 xb5_0 xb5_1) else (if x7 = true then (if (x15 != (decide (x10 > 0))) = true then (laws_FnAgesGuessed.m4 k x1 x6 x7 x10 x14 x15 x18 x22 x26 x30 x31 x34 x35 x38 x39 xb5_0 xb5_1) else (if (x19 != x15) = true then (laws_FnAgesGuessed.m4 k x1 x6 x7 x10 x14 x15 x18 x22 x26 x30 x31 x34 x35 x38 x39 xb5_0 xb5_1) else (if (x23 != x7) = true then (laws_FnAgesGuessed.m4 k x1 x6 x7 x10 x14 x15 x18 x22 x26 x30 x31 x34 x35 x38 x39 xb5_0 xb5_1) else (if (x27 != x7) = true then (laws_FnAgesGuessed.m4 k x1 x6 x7 x10 x14 x15 x18 x22 x26 x30 x31 x34 x35 x38 x39 xb5_0 xb5_1) else (laws_FnAgesGuessed.m9 k x1 x6 x7 x10 x14 x15 x18 x22 x26 x30 x31 x34 x35 x38 x39 xb5_0 xb5_1))))) else (if (x15 != false) = true then (laws_FnAgesGuessed.m4 k x1 x6 x7 x10 x14 x15 x18 x22 x26 x30 x31 x34 x35 x38 x39 xb5_0 xb5_1) else (if (x19 != x15) = true then (laws_FnAgesGuessed.m4 k x1 x6 x7 x10 x14 x15 x18 x22 x26 x30 x31 x34 x35 x38 x39 xb5_0 xb5_1) else (if (x23 != x7) = true then (laws_FnAgesGuessed.m4 k x1 x6 x7 x10 x14 x15 x18 x22 x26 x30 x31 x34 x35 x38 x39 xb5_0 xb5_1) else (if (x27 != x7) = true then (laws_FnAgesGuessed.m4 k x1 x6 x7 x10 x14 x15 x18 x22 x26 x30 x31 x34 x35 x38 x39 xb5_0 xb5_1) else (laws_FnAgesGuessed.m9 k x1 x6 x7 x10 x14 x15 x18 x22 x26 x30 x31 x34 x35 x38 x39 xb5_0 xb5_1))))))
def laws_FnAgesGuessed.m9 : Nat → List Int → List (List Int) → Bool → Int → List Int → Bool → List Int → Bool → List Int → List Int → Bool → Int → Bool → List UInt8 → Bool → Int → (List (Int × Int × Int)) → Option (Bool)
 | 0, _, _, _, _, _, _, _, _, _, _, _, _, _, _, _, _, _ => none
 | k + 1, x1, x6, x7, x10, x14, x15, x18, x22, x26, x30, x31, x34, x35, x38, x39, xb5_0, xb5_1 => if (x31 != x7) = true then (laws_FnAgesGuessed.j2 k x1 x6 x7 x10 x14 x15 x18 x22 x26 x30 x34 x38 true xb5_0 xb5_1) else (if x7 = true then (if (x35 != (decide ((xb5_1.length : Int) > 0))) = true then (laws_FnAgesGuessed.j2 k x1 x6 x7 x10 x14 x15 x18 x22 x26 x30 x34 x38 true xb5_0 xb5_1) else (laws_FnAgesGuessed.j2 k x1 x6 x7 x10 x14 x15 x18 x22 x26 x30 x34 x38 ((x39 != x7)) xb5_0 xb5_1)) else (if (x35 != false) = true then (laws_FnAgesGuessed.j2 k x1 x6 x7 x10 x14 x15 x18 x22 x26 x30 x34 x38 true xb5_0 xb5_1) else (laws_FnAgesGuessed.j2 k x1 x6 x7 x10 x14 x15 x18 x22 x26 x30 x34 x38 ((x39 != x7)) xb5_0 xb5_1)))
end
def laws_FnAgesGuessed.f (k : Nat) (x0 : List Int) (x1 : List Int) : Option (Bool) := (laws_big.f x0 x1).bind fun y1 => (if y1 = true then (some true) else ((spec_DrawSolutions.f k x0).bind fun y2 => ((impl_Solutions.f k (y2.1, y2.2)).bind fun y3 => ((spec_Solutions.f k (y2.1, y2.2)).bind fun y4 => ((impl_CountSolutions.f k (y2.1, y2.2)).bind fun y5 => ((spec_CountSolutions.f k (y2.1, y2.2)).bind fun y6 => ((impl_FirstSolution.f k (y2.1, y2.2)).bind fun y7 => ((spec_FirstSolution.f k (y2.1, y2.2)).bind fun y8 => ((impl_SureAges.f k (y2.1, y2.2)).bind fun y9 => ((spec_SureAges.f k (y2.1, y2.2)).bind fun y10 => (laws_FnAgesGuessed.j0 k x1 y3.1 y3.2 y4.1 y4.2 y5.1 y5.2 y6.1 y6.2 y7.1 y7.2 y8.1 y8.2 y9.1 y9.2 y10.1 y10.2 y2.1 y2.2)))))))))))
theorem laws_FnAgesGuessed.br_l : ∀ k, (∀ (x1 : List Int) (x6 : List (List Int)) (x7 : Bool) (x8 : List (List Int)) (x9 : Bool) (x10 : Int) (x11 : Bool) (x12 : Int) (x13 : Bool) (x14 : List Int) (x15 : Bool) (x16 : List Int) (x17 : Bool) (x18 : List Int) (x19 : Bool) (x20 : List Int) (x21 : Bool) (xb5_0 : Int) (xb5_1 : List (Int × Int × Int)), LeO (laws_FnAgesGuessed.j0 k x1 x6 x7 x8 x9 x10 x11 x12 x13 x14 x15 x16 x17 x18 x19 x20 x21 xb5_0 xb5_1) (S.laws_FnAgesGuessed.j0 x1 x6 x7 x8 x9 x10 x11 x12 x13 x14 x15 x16 x17 x18 x19 x20 x21 xb5_0 xb5_1)) ∧ (∀ (x1 : List Int) (x6 : List (List Int)) (x7 : Bool) (x8 : List (List Int)) (x9 : Bool) (x10 : Int) (x11 : Bool) (x12 : Int) (x13 : Bool) (x14 : List Int) (x15 : Bool) (x16 : List Int) (x17 : Bool) (x18 : List Int) (x19 : Bool) (x20 : List Int) (x21 : Bool) (x22 : Bool) (x23 : Bool) (x24 : Bool) (x25 : Bool) (x26 : List Int) (x27 : Bool) (x28 : List Int) (x29 : Bool) (x30 : List Int) (x31 : Bool) (x32 : List Int) (x33 : Bool) (x34 : Int) (x35 : Bool) (x36 : Int) (x37 : Bool) (x38 : List UInt8) (x39 : Bool) (x40 : List UInt8) (x41 : Bool) (xb5_0 : Int) (xb5_1 : List (Int × Int × Int)), LeO (laws_FnAgesGuessed.j1 k x1 x6 x7 x8 x9 x10 x11 x12 x13 x14 x15 x16 x17 x18 x19 x20 x21 x22 x23 x24 x25 x26 x27 x28 x29 x30 x31 x32 x33 x34 x35 x36 x37 x38 x39 x40 x41 xb5_0 xb5_1) (S.laws_FnAgesGuessed.j1 x1 x6 x7 x8 x9 x10 x11 x12 x13 x14 x15 x16 x17 x18 x19 x20 x21 x22 x23 x24 x25 x26 x27 x28 x29 x30 x31 x32 x33 x34 x35 x36 x37 x38 x39 x40 x41 xb5_0 xb5_1)) ∧ (∀ (x1 : List Int) (x6 : List (List Int)) (x7 : Bool) (x10 : Int) (x11 : Bool) (x14 : List Int) (x15 : Bool) (x16 : List Int) (x18 : List Int) (x19 : Bool) (x20 : List Int) (x21 : Bool) (x22 : Bool) (x23 : Bool) (x24 : Bool) (x25 : Bool) (x26 : List Int) (x27 : Bool) (x28 : List Int) (x29 : Bool) (x30 : List Int) (x31 : Bool) (x32 : List Int) (x33 : Bool) (x34 : Int) (x35 : Bool) (x36 : Int) (x37 : Bool) (x38 : List UInt8) (x39 : Bool) (x40 : List UInt8) (x41 : Bool) (xb5_0 : Int) (xb5_1 : List (Int × Int × Int)), LeO (laws_FnAgesGuessed.m0 k x1 x6 x7 x10 x11 x14 x15 x16 x18 x19 x20 x21 x22 x23 x24 x25 x26 x27 x28 x29 x30 x31 x32 x33 x34 x35 x36 x37 x38 x39 x40 x41 xb5_0 xb5_1) (S.laws_FnAgesGuessed.m0 x1 x6 x7 x10 x11 x14 x15 x16 x18 x19 x20 x21 x22 x23 x24 x25 x26 x27 x28 x29 x30 x31 x32 x33 x34 x35 x36 x37 x38 x39 x40 x41 xb5_0 xb5_1)) ∧ (∀ (x1 : List Int) (x6 : List (List Int)) (x7 : Bool) (x10 : Int) (x11 : Bool) (x14 : List Int) (x15 : Bool) (x18 : List Int) (x19 : Bool) (x22 : Bool) (x23 : Bool) (x26 : List Int) (x27 : Bool) (x28 : List Int) (x29 : Bool) (x30 : List Int) (x31 : Bool) (x32 : List Int) (x33 : Bool) (x34 : Int) (x35 : Bool) (x36 : Int) (x37 : Bool) (x38 : List UInt8) (x39 : Bool) (x40 : List UInt8) (x41 : Bool) (xb5_0 : Int) (xb5_1 : List (Int × Int × Int)), LeO (laws_FnAgesGuessed.m1 k x1 x6 x7 x10 x11 x14 x15 x18 x19 x22 x23 x26 x27 x28 x29 x30 x31 x32 x33 x34 x35 x36 x37 x38 x39 x40 x41 xb5_0 xb5_1) (S.laws_FnAgesGuessed.m1 x1 x6 x7 x10 x11 x14 x15 x18 x19 x22 x23 x26 x27 x28 x29 x30 x31 x32 x33 x34 x35 x36 x37 x38 x39 x40 x41 xb5_0 xb5_1)) ∧ (∀ (x1 : List Int) (x6 : List (List Int)) (x7 : Bool) (x10 : Int) (x11 : Bool) (x14 : List Int) (x15 : Bool) (x18 : List Int) (x19 : Bool) (x22 : Bool) (x23 : Bool) (x26 : List Int) (x27 : Bool) (x30 : List Int) (x31 : Bool) (x34 : Int) (x35 : Bool) (x36 : Int) (x38 : List UInt8) (x39 : Bool) (x40 : List UInt8) (x41 : Bool) (xb5_0 : Int) (xb5_1 : List (Int × Int × Int)), LeO (laws_FnAgesGuessed.m2 k x1 x6 x7 x10 x11 x14 x15 x18 x19 x22 x23 x26 x27 x30 x31 x34 x35 x36 x38 x39 x40 x41 xb5_0 xb5_1) (S.laws_FnAgesGuessed.m2 x1 x6 x7 x10 x11 x14 x15 x18 x19 x22 x23 x26 x27 x30 x31 x34 x35 x36 x38 x39 x40 x41 xb5_0 xb5_1)) ∧ (∀ (x1 : List Int) (x6 : List (List Int)) (x7 : Bool) (x10 : Int) (x11 : Bool) (x14 : List Int) (x15 : Bool) (x18 : List Int) (x19 : Bool) (x22 : Bool) (x23 : Bool) (x26 : List Int) (x27 : Bool) (x30 : List Int) (x31 : Bool) (x34 : Int) (x35 : Bool) (x38 : List UInt8) (x39 : Bool) (xb5_0 : Int) (xb5_1 : List (Int × Int × Int)), LeO (laws_FnAgesGuessed.m3 k x1 x6 x7 x10 x11 x14 x15 x18 x19 x22 x23 x26 x27 x30 x31 x34 x35 x38 x39 xb5_0 xb5_1) (S.laws_FnAgesGuessed.m3 x1 x6 x7 x10 x11 x14 x15 x18 x19 x22 x23 x26 x27 x30 x31 x34 x35 x38 x39 xb5_0 xb5_1)) ∧ (∀ (x1 : List Int) (x6 : List (List Int)) (x7 : Bool) (x10 : Int) (x14 : List Int) (x15 : Bool) (x18 : List Int) (x22 : Bool) (x26 : List Int) (x30 : List Int) (x31 : Bool) (x34 : Int) (x35 : Bool) (x38 : List UInt8) (x39 : Bool) (xb5_0 : Int) (xb5_1 : List (Int × Int × Int)), LeO (laws_FnAgesGuessed.m4 k x1 x6 x7 x10 x14 x15 x18 x22 x26 x30 x31 x34 x35 x38 x39 xb5_0 xb5_1) (S.laws_FnAgesGuessed.m4 x1 x6 x7 x10 x14 x15 x18 x22 x26 x30 x31 x34 x35 x38 x39 xb5_0 xb5_1)) ∧ (∀ (x1 : List Int) (x6 : List (List Int)) (x7 : Bool) (x10 : Int) (x14 : List Int) (x15 : Bool) (x18 : List Int) (x22 : Bool) (x26 : List Int) (x30 : List Int) (x34 : Int) (x38 : List UInt8) (x316 : Bool) (xb5_0 : Int) (xb5_1 : List (Int × Int × Int)), LeO (laws_FnAgesGuessed.j2 k x1 x6 x7 x10 x14 x15 x18 x22 x26 x30 x34 x38 x316 xb5_0 xb5_1) (S.laws_FnAgesGuessed.j2 x1 x6 x7 x10 x14 x15 x18 x22 x26 x30 x34 x38 x316 xb5_0 xb5_1)) ∧ (∀ (x1 : List Int) (x6 : List (List Int)) (x10 : Int) (x14 : List Int) (x15 : Bool) (x18 : List Int) (x22 : Bool) (x26 : List Int) (x30 : List Int) (x34 : Int) (x38 : List UInt8) (x42 : Int) (x43 : Int) (xb5_0 : Int) (xb5_1 : List (Int × Int × Int)), LeO (laws_FnAgesGuessed.l0 k x1 x6 x10 x14 x15 x18 x22 x26 x30 x34 x38 x42 x43 xb5_0 xb5_1) (S.laws_FnAgesGuessed.l0 x1 x6 x10 x14 x15 x18 x22 x26 x30 x34 x38 x42 x43 xb5_0 xb5_1)) ∧ (∀ (x1 : List Int) (x6 : List (List Int)) (x10 : Int) (x18 : List Int) (x26 : List Int) (x30 : List Int) (x34 : Int) (x38 : List UInt8) (x396 : Bool) (xb5_0 : Int) (xb5_1 : List (Int × Int × Int)), LeO (laws_FnAgesGuessed.j3 k x1 x6 x10 x18 x26 x30 x34 x38 x396 xb5_0 xb5_1) (S.laws_FnAgesGuessed.j3 x1 x6 x10 x18 x26 x30 x34 x38 x396 xb5_0 xb5_1)) ∧ (∀ (x1 : List Int) (x6 : List (List Int)) (x10 : Int) (x18 : List Int) (x26 : List Int) (x30 : List Int) (x34 : Int) (x38 : List UInt8) (x398 : Int) (x399 : Int) (xb5_0 : Int) (xb5_1 : List (Int × Int × Int)), LeO (laws_FnAgesGuessed.l1 k x1 x6 x10 x18 x26 x30 x34 x38 x398 x399 xb5_0 xb5_1) (S.laws_FnAgesGuessed.l1 x1 x6 x10 x18 x26 x30 x34 x38 x398 x399 xb5_0 xb5_1)) ∧ (∀ (x1 : List Int) (x6 : List (List Int)) (x10 : Int) (x18 : List Int) (x26 : List Int) (x30 : List Int) (x34 : Int) (x38 : List UInt8) (x44 : Int) (x45 : List Int) (x398 : Int) (x399 : Int) (x413 : Bool) (xb5_0 : Int) (xb5_1 : List (Int × Int × Int)), LeO (laws_FnAgesGuessed.j4 k x1 x6 x10 x18 x26 x30 x34 x38 x44 x45 x398 x399 x413 xb5_0 xb5_1) (S.laws_FnAgesGuessed.j4 x1 x6 x10 x18 x26 x30 x34 x38 x44 x45 x398 x399 x413 xb5_0 xb5_1)) ∧ (∀ (x1 : List Int) (x6 : List (List Int)) (x10 : Int) (x18 : List Int) (x26 : List Int) (x30 : List Int) (x34 : Int) (x38 : List UInt8) (x44 : Int) (x45 : List Int) (x398 : Int) (x399 : Int) (x415 : Int) (x416 : Int) (xb5_0 : Int) (xb5_1 : List (Int × Int × Int)), LeO (laws_FnAgesGuessed.l2 k x1 x6 x10 x18 x26 x30 x34 x38 x44 x45 x398 x399 x415 x416 xb5_0 xb5_1) (S.laws_FnAgesGuessed.l2 x1 x6 x10 x18 x26 x30 x34 x38 x44 x45 x398 x399 x415 x416 xb5_0 xb5_1)) ∧ (∀ (x1 : List Int) (x6 : List (List Int)) (x10 : Int) (x18 : List Int) (x26 : List Int) (x30 : List Int) (x34 : Int) (x38 : List UInt8) (x45 : List Int) (x398 : Int) (x399 : Int) (x435 : List (Int × Int × Int)) (x436 : Int) (x437 : Int) (xb5_0 : Int) (xb5_1 : List (Int × Int × Int)), LeO (laws_FnAgesGuessed.l3 k x1 x6 x10 x18 x26 x30 x34 x38 x45 x398 x399 x435 x436 x437 xb5_0 xb5_1) (S.laws_FnAgesGuessed.l3 x1 x6 x10 x18 x26 x30 x34 x38 x45 x398 x399 x435 x436 x437 xb5_0 xb5_1)) ∧ (∀ (x1 : List Int) (x10 : Int) (x26 : List Int) (x30 : List Int) (x34 : Int) (x38 : List UInt8) (x457 : Int) (x458 : Int) (xb5_0 : Int) (xb5_1 : List (Int × Int × Int)), LeO (laws_FnAgesGuessed.l4 k x1 x10 x26 x30 x34 x38 x457 x458 xb5_0 xb5_1) (S.laws_FnAgesGuessed.l4 x1 x10 x26 x30 x34 x38 x457 x458 xb5_0 xb5_1)) ∧ (∀ (x1 : List Int) (x10 : Int) (x26 : List Int) (x30 : List Int) (x34 : Int) (x38 : List UInt8) (x52 : Int) (x54 : Bool) (x55 : Int) (x56 : Bool) (x457 : Int) (x458 : Int) (xb5_0 : Int) (xb5_1 : List (Int × Int × Int)), LeO (laws_FnAgesGuessed.j5 k x1 x10 x26 x30 x34 x38 x52 x54 x55 x56 x457 x458 xb5_0 xb5_1) (S.laws_FnAgesGuessed.j5 x1 x10 x26 x30 x34 x38 x52 x54 x55 x56 x457 x458 xb5_0 xb5_1)) ∧ (∀ (x1 : List Int), LeO (laws_FnAgesGuessed.j6 k x1) (S.laws_FnAgesGuessed.j6 x1)) ∧ (∀ (x59 : List UInt8) (x61 : Bool) (xb60_0 : Int) (xb60_1 : List (Int × Int × Int)), LeO (laws_FnAgesGuessed.j7 k x59 x61 xb60_0 xb60_1) (S.laws_FnAgesGuessed.j7 x59 x61 xb60_0 xb60_1)) ∧ (∀ (x59 : List UInt8) (x61 : Bool) (x544 : Bool) (xb60_0 : Int) (xb60_1 : List (Int × Int × Int)), LeO (laws_FnAgesGuessed.j8 k x59 x61 x544 xb60_0 xb60_1) (S.laws_FnAgesGuessed.j8 x59 x61 x544 xb60_0 xb60_1)) ∧ (∀ (x1 : List Int) (x6 : List (List Int)) (x7 : Bool) (x10 : Int) (x11 : Bool) (x14 : List Int) (x15 : Bool) (x16 : List Int) (x18 : List Int) (x19 : Bool) (x20 : List Int) (x21 : Bool) (x22 : Bool) (x23 : Bool) (x24 : Bool) (x25 : Bool) (x26 : List Int) (x27 : Bool) (x28 : List Int) (x29 : Bool) (x30 : List Int) (x31 : Bool) (x32 : List Int) (x33 : Bool) (x34 : Int) (x35 : Bool) (x36 : Int) (x37 : Bool) (x38 : List UInt8) (x39 : Bool) (x40 : List UInt8) (x41 : Bool) (xb5_0 : Int) (xb5_1 : List (Int × Int × Int)), LeO (laws_FnAgesGuessed.m5 k x1 x6 x7 x10 x11 x14 x15 x16 x18 x19 x20 x21 x22 x23 x24 x25 x26 x27 x28 x29 x30 x31 x32 x33 x34 x35 x36 x37 x38 x39 x40 x41 xb5_0 xb5_1) (S.laws_FnAgesGuessed.m5 x1 x6 x7 x10 x11 x14 x15 x16 x18 x19 x20 x21 x22 x23 x24 x25 x26 x27 x28 x29 x30 x31 x32 x33 x34 x35 x36 x37 x38 x39 x40 x41 xb5_0 xb5_1)) ∧ (∀ (x1 : List Int) (x6 : List (List Int)) (x7 : Bool) (x10 : Int) (x11 : Bool) (x14 : List Int) (x15 : Bool) (x18 : List Int) (x19 : Bool) (x22 : Bool) (x23 : Bool) (x26 : List Int) (x27 : Bool) (x28 : List Int) (x29 : Bool) (x30 : List Int) (x31 : Bool) (x32 : List Int) (x33 : Bool) (x34 : Int) (x35 : Bool) (x36 : Int) (x37 : Bool) (x38 : List UInt8) (x39 : Bool) (x40 : List UInt8) (x41 : Bool) (xb5_0 : Int) (xb5_1 : List (Int × Int × Int)), LeO (laws_FnAgesGuessed.m6 k x1 x6 x7 x10 x11 x14 x15 x18 x19 x22 x23 x26 x27 x28 x29 x30 x31 x32 x33 x34 x35 x36 x37 x38 x39 x40 x41 xb5_0 xb5_1) (S.laws_FnAgesGuessed.m6 x1 x6 x7 x10 x11 x14 x15 x18 x19 x22 x23 x26 x27 x28 x29 x30 x31 x32 x33 x34 x35 x36 x37 x38 x39 x40 x41 xb5_0 xb5_1)) ∧ (∀ (x1 : List Int) (x6 : List (List Int)) (x7 : Bool) (x10 : Int) (x11 : Bool) (x14 : List Int) (x15 : Bool) (x18 : List Int) (x19 : Bool) (x22 : Bool) (x23 : Bool) (x26 : List Int) (x27 : Bool) (x30 : List Int) (x31 : Bool) (x34 : Int) (x35 : Bool) (x36 : Int) (x38 : List UInt8) (x39 : Bool) (x40 : List UInt8) (x41 : Bool) (xb5_0 : Int) (xb5_1 : List (Int × Int × Int)), LeO (laws_FnAgesGuessed.m7 k x1 x6 x7 x10 x11 x14 x15 x18 x19 x22 x23 x26 x27 x30 x31 x34 x35 x36 x38 x39 x40 x41 xb5_0 xb5_1) (S.laws_FnAgesGuessed.m7 x1 x6 x7 x10 x11 x14 x15 x18 x19 x22 x23 x26 x27 x30 x31 x34 x35 x36 x38 x39 x40 x41 xb5_0 xb5_1)) ∧ (∀ (x1 : List Int) (x6 : List (List Int)) (x7 : Bool) (x10 : Int) (x11 : Bool) (x14 : List Int) (x15 : Bool) (x18 : List Int) (x19 : Bool) (x22 : Bool) (x23 : Bool) (x26 : List Int) (x27 : Bool) (x30 : List Int) (x31 : Bool) (x34 : Int) (x35 : Bool) (x38 : List UInt8) (x39 : Bool) (xb5_0 : Int) (xb5_1 : List (Int × Int × Int)), LeO (laws_FnAgesGuessed.m8 k x1 x6 x7 x10 x11 x14 x15 x18 x19 x22 x23 x26 x27 x30 x31 x34 x35 x38 x39 xb5_0 xb5_1) (S.laws_FnAgesGuessed.m8 x1 x6 x7 x10 x11 x14 x15 x18 x19 x22 x23 x26 x27 x30 x31 x34 x35 x38 x39 xb5_0 xb5_1)) ∧ (∀ (x1 : List Int) (x6 : List (List Int)) (x7 : Bool) (x10 : Int) (x14 : List Int) (x15 : Bool) (x18 : List Int) (x22 : Bool) (x26 : List Int) (x30 : List Int) (x31 : Bool) (x34 : Int) (x35 : Bool) (x38 : List UInt8) (x39 : Bool) (xb5_0 : Int) (xb5_1 : List (Int × Int × Int)), LeO (laws_FnAgesGuessed.m9 k x1 x6 x7 x10 x14 x15 x18 x22 x26 x30 x31 x34 x35 x38 x39 xb5_0 xb5_1) (S.laws_FnAgesGuessed.m9 x1 x6 x7 x10 x14 x15 x18 x22 x26 x30 x31 x34 x35 x38 x39 xb5_0 xb5_1))
 | 0 => ⟨fun _ _ _ _ _ _ _ _ _ _ _ _ _ _ _ _ _ _ _ => LeO.none _, fun _ _ _ _ _ _ _ _ _ _ _ _ _ _ _ _ _ _ _ _ _ _ _ _ _ _ _ _ _ _ _ _ _ _ _ _ _ _ _ => LeO.none _, fun _ _ _ _ _ _ _ _ _ _ _ _ _ _ _ _ _ _ _ _ _ _ _ _ _ _ _ _ _ _ _ _ _ _ => LeO.none _, fun _ _ _ _ _ _ _ _ _ _ _ _ _ _ _ _ _ _ _ _ _ _ _ _ _ _ _ _ _ => LeO.none _, fun _ _ _ _ _ _ _ _ _ _ _ _ _ _ _ _ _ _ _ _ _ _ _ _ => LeO.none _, fun _ _ _ _ _ _ _ _ _ _ _ _ _ _ _ _ _ _ _ _ _ => LeO.none _, fun _ _ _ _ _ _ _ _ _ _ _ _ _ _ _ _ _ => LeO.none _, fun _ _ _ _ _ _ _ _ _ _ _ _ _ _ _ => LeO.none _, fun _ _ _ _ _ _ _ _ _ _ _ _ _ _ _ => LeO.none _, fun _ _ _ _ _ _ _ _ _ _ _ => LeO.none _, fun _ _ _ _ _ _ _ _ _ _ _ _ => LeO.none _, fun _ _ _ _ _ _ _ _ _ _ _ _ _ _ _ => LeO.none _, fun _ _ _ _ _ _ _ _ _ _ _ _ _ _ _ _ => LeO.none _, fun _ _ _ _ _ _ _ _ _ _ _ _ _ _ _ _ => LeO.none _, fun _ _ _ _ _ _ _ _ _ _ => LeO.none _, fun _ _ _ _ _ _ _ _ _ _ _ _ _ _ => LeO.none _, fun _ => LeO.none _, fun _ _ _ _ => LeO.none _, fun _ _ _ _ _ => LeO.none _, fun _ _ _ _ _ _ _ _ _ _ _ _ _ _ _ _ _ _ _ _ _ _ _ _ _ _ _ _ _ _ _ _ _ _ => LeO.none _, fun _ _ _ _ _ _ _ _ _ _ _ _ _ _ _ _ _ _ _ _ _ _ _ _ _ _ _ _ _ => LeO.none _, fun _ _ _ _ _ _ _ _ _ _ _ _ _ _ _ _ _ _ _ _ _ _ _ _ => LeO.none _, fun _ _ _ _ _ _ _ _ _ _ _ _ _ _ _ _ _ _ _ _ _ => LeO.none _, fun _ _ _ _ _ _ _ _ _ _ _ _ _ _ _ _ _ => LeO.none _⟩
 | k + 1 => by
  have ih := laws_FnAgesGuessed.br_l k
  obtain ⟨ih_j0, ih_j1, ih_m0, ih_m1, ih_m2, ih_m3, ih_m4, ih_j2, ih_l0, ih_j3, ih_l1, ih_j4, ih_l2, ih_l3, ih_l4, ih_j5, ih_j6, ih_j7, ih_j8, ih_m5, ih_m6, ih_m7, ih_m8, ih_m9⟩ := ih
  refine ⟨fun x1 x6 x7 x8 x9 x10 x11 x12 x13 x14 x15 x16 x17 x18 x19 x20 x21 xb5_0 xb5_1 => ?_, fun x1 x6 x7 x8 x9 x10 x11 x12 x13 x14 x15 x16 x17 x18 x19 x20 x21 x22 x23 x24 x25 x26 x27 x28 x29 x30 x31 x32 x33 x34 x35 x36 x37 x38 x39 x40 x41 xb5_0 xb5_1 => ?_, fun x1 x6 x7 x10 x11 x14 x15 x16 x18 x19 x20 x21 x22 x23 x24 x25 x26 x27 x28 x29 x30 x31 x32 x33 x34 x35 x36 x37 x38 x39 x40 x41 xb5_0 xb5_1 => ?_, fun x1 x6 x7 x10 x11 x14 x15 x18 x19 x22 x23 x26 x27 x28 x29 x30 x31 x32 x33 x34 x35 x36 x37 x38 x39 x40 x41 xb5_0 xb5_1 => ?_, fun x1 x6 x7 x10 x11 x14 x15 x18 x19 x22 x23 x26 x27 x30 x31 x34 x35 x36 x38 x39 x40 x41 xb5_0 xb5_1 => ?_, fun x1 x6 x7 x10 x11 x14 x15 x18 x19 x22 x23 x26 x27 x30 x31 x34 x35 x38 x39 xb5_0 xb5_1 => ?_, fun x1 x6 x7 x10 x14 x15 x18 x22 x26 x30 x31 x34 x35 x38 x39 xb5_0 xb5_1 => ?_, fun x1 x6 x7 x10 x14 x15 x18 x22 x26 x30 x34 x38 x316 xb5_0 xb5_1 => ?_, fun x1 x6 x10 x14 x15 x18 x22 x26 x30 x34 x38 x42 x43 xb5_0 xb5_1 => ?_, fun x1 x6 x10 x18 x26 x30 x34 x38 x396 xb5_0 xb5_1 => ?_, fun x1 x6 x10 x18 x26 x30 x34 x38 x398 x399 xb5_0 xb5_1 => ?_, fun x1 x6 x10 x18 x26 x30 x34 x38 x44 x45 x398 x399 x413 xb5_0 xb5_1 => ?_, fun x1 x6 x10 x18 x26 x30 x34 x38 x44 x45 x398 x399 x415 x416 xb5_0 xb5_1 => ?_, fun x1 x6 x10 x18 x26 x30 x34 x38 x45 x398 x399 x435 x436 x437 xb5_0 xb5_1 => ?_, fun x1 x10 x26 x30 x34 x38 x457 x458 xb5_0 xb5_1 => ?_, fun x1 x10 x26 x30 x34 x38 x52 x54 x55 x56 x457 x458 xb5_0 xb5_1 => ?_, fun x1 => ?_, fun x59 x61 xb60_0 xb60_1 => ?_, fun x59 x61 x544 xb60_0 xb60_1 => ?_, fun x1 x6 x7 x10 x11 x14 x15 x16 x18 x19 x20 x21 x22 x23 x24 x25 x26 x27 x28 x29 x30 x31 x32 x33 x34 x35 x36 x37 x38 x39 x40 x41 xb5_0 xb5_1 => ?_, fun x1 x6 x7 x10 x11 x14 x15 x18 x19 x22 x23 x26 x27 x28 x29 x30 x31 x32 x33 x34 x35 x36 x37 x38 x39 x40 x41 xb5_0 xb5_1 => ?_, fun x1 x6 x7 x10 x11 x14 x15 x18 x19 x22 x23 x26 x27 x30 x31 x34 x35 x36 x38 x39 x40 x41 xb5_0 xb5_1 => ?_, fun x1 x6 x7 x10 x11 x14 x15 x18 x19 x22 x23 x26 x27 x30 x31 x34 x35 x38 x39 xb5_0 xb5_1 => ?_, fun x1 x6 x7 x10 x14 x15 x18 x22 x26 x30 x31 x34 x35 x38 x39 xb5_0 xb5_1 => ?_⟩
  ·refine LeO.of (S.laws_FnAgesGuessed.j0.eq _ _ _ _ _ _ _ _ _ _ _ _ _ _ _ _ _ _ _) ?_
   unfold laws_FnAgesGuessed.j0
   exact (LeO.bind (impl_IsSolved.f.br k _) (fun y1 => (LeO.bind (spec_IsSolved.f.br k _) (fun y2 => (LeO.bind (impl_NeedlessClues.f.br k _) (fun y3 => (LeO.bind (spec_NeedlessClues.f.br k _) (fun y4 => (LeO.bind (impl_LeftByClues.f.br k _) (fun y5 => (LeO.bind (spec_LeftByClues.f.br k _) (fun y6 => (LeO.bind (impl_BestClue.f.br k _) (fun y7 => (LeO.bind (spec_BestClue.f.br k _) (fun y8 => (LeO.bind (impl_PuzzleText.f.br k _) (fun y9 => (LeO.bind (spec_PuzzleText.f.br k _) (fun y10 => (ih_j1 _ _ _ _ _ _ _ _ _ _ _ _ _ _ _ _ _ _ _ _ _ _ _ _ _ _ _ _ _ _ _ _ _ _ _ _ _ _ _)))))))))))))))))))))
  ·refine LeO.of (S.laws_FnAgesGuessed.j1.eq _ _ _ _ _ _ _ _ _ _ _ _ _ _ _ _ _ _ _ _ _ _ _ _ _ _ _ _ _ _ _ _ _ _ _ _ _ _ _) ?_
   unfold laws_FnAgesGuessed.j1
   exact (LeO.ite' (fun h0 => (ih_m0 _ _ _ _ _ _ _ _ _ _ _ _ _ _ _ _ _ _ _ _ _ _ _ _ _ _ _ _ _ _ _ _ _ _)) (fun h0 => (LeO.bind (laws_qRows.f.br k _ _) (fun y90 => (LeO.nob (fun h1 => (LeO.ite' (fun h2 => (ih_m0 _ _ _ _ _ _ _ _ _ _ _ _ _ _ _ _ _ _ _ _ _ _ _ _ _ _ _ _ _ _ _ _ _ _)) (fun h2 => (LeO.bne (fun h3 => (LeO.ite' (fun h4 => (ih_m0 _ _ _ _ _ _ _ _ _ _ _ _ _ _ _ _ _ _ _ _ _ _ _ _ _ _ _ _ _ _ _ _ _ _)) (fun h4 => (ih_m5 _ _ _ _ _ _ _ _ _ _ _ _ _ _ _ _ _ _ _ _ _ _ _ _ _ _ _ _ _ _ _ _ _ _)))) (fun h3 => (ih_m0 _ _ _ _ _ _ _ _ _ _ _ _ _ _ _ _ _ _ _ _ _ _ _ _ _ _ _ _ _ _ _ _ _ _)))))) (fun h1 => (ih_m0 _ _ _ _ _ _ _ _ _ _ _ _ _ _ _ _ _ _ _ _ _ _ _ _ _ _ _ _ _ _ _ _ _ _)))))))
  ·refine LeO.of (S.laws_FnAgesGuessed.m0.eq _ _ _ _ _ _ _ _ _ _ _ _ _ _ _ _ _ _ _ _ _ _ _ _ _ _ _ _ _ _ _ _ _ _) ?_
   unfold laws_FnAgesGuessed.m0
   exact (ih_m1 _ _ _ _ _ _ _ _ _ _ _ _ _ _ _ _ _ _ _ _ _ _ _ _ _ _ _ _ _)
  ·refine LeO.of (S.laws_FnAgesGuessed.m1.eq _ _ _ _ _ _ _ _ _ _ _ _ _ _ _ _ _ _ _ _ _ _ _ _ _ _ _ _ _) ?_
   unfold laws_FnAgesGuessed.m1
   exact (ih_m2 _ _ _ _ _ _ _ _ _ _ _ _ _ _ _ _ _ _ _ _ _ _ _ _)
  ·refine LeO.of (S.laws_FnAgesGuessed.m2.eq _ _ _ _ _ _ _ _ _ _ _ _ _ _ _ _ _ _ _ _ _ _ _ _) ?_
   unfold laws_FnAgesGuessed.m2
   exact (ih_m3 _ _ _ _ _ _ _ _ _ _ _ _ _ _ _ _ _ _ _ _ _)
  ·refine LeO.of (S.laws_FnAgesGuessed.m3.eq _ _ _ _ _ _ _ _ _ _ _ _ _ _ _ _ _ _ _ _ _) ?_
   unfold laws_FnAgesGuessed.m3
   exact (ih_m4 _ _ _ _ _ _ _ _ _ _ _ _ _ _ _ _ _)
  ·refine LeO.of (S.laws_FnAgesGuessed.m4.eq _ _ _ _ _ _ _ _ _ _ _ _ _ _ _ _ _) ?_
   unfold laws_FnAgesGuessed.m4
   exact (ih_j2 _ _ _ _ _ _ _ _ _ _ _ _ _ _ _)
  ·refine LeO.of (S.laws_FnAgesGuessed.j2.eq _ _ _ _ _ _ _ _ _ _ _ _ _ _ _) ?_
   unfold laws_FnAgesGuessed.j2
   exact (LeO.ite' (fun h0 => LeO.refl _) (fun h0 => (LeO.ite' (fun h1 => (ih_l0 _ _ _ _ _ _ _ _ _ _ _ _ _ _ _)) (fun h1 => (ih_j6 _)))))
  ·refine LeO.of (S.laws_FnAgesGuessed.l0.eq _ _ _ _ _ _ _ _ _ _ _ _ _ _ _) ?_
   unfold laws_FnAgesGuessed.l0
   exact (LeO.dec (fun h0 => (ih_l0 _ _ _ _ _ _ _ _ _ _ _ _ _ _ _)) (fun h0 => (LeO.bne (fun h1 => (LeO.ite' (fun h2 => (LeO.tst fun h4 => (LeO.rdI (by decide) h4 (LeO.bind (laws_qSame.f.br k _ _) (fun y21 => (LeO.nob (fun h5 => (LeO.ite' (fun h6 => (ih_j3 _ _ _ _ _ _ _ _ _ _ _)) (fun h6 => (LeO.bne (fun h7 => (LeO.tst fun h8 => (LeO.rdI (by decide) h8 (LeO.bne (fun h9 => (LeO.tst fun h10 => (LeO.tst fun h11 => (LeO.rdI h10 h11 (LeO.bne (fun h12 => (LeO.ite' (fun h13 => (LeO.bind (laws_qSame.f.br k _ _) (fun y38 => (LeO.nob (fun h14 => (LeO.ite_t h2 (LeO.bne (fun h15 => (LeO.bind (laws_qOrdered.f.br k _) (fun y45 => (ih_j3 _ _ _ _ _ _ _ _ _ _ _)))) (fun h15 => (ih_j3 _ _ _ _ _ _ _ _ _ _ _))))) (fun h14 => (ih_j3 _ _ _ _ _ _ _ _ _ _ _)))))) (fun h13 => (LeO.ite_t h2 (LeO.bne (fun h14 => (LeO.bind (laws_qOrdered.f.br k _) (fun y53 => (ih_j3 _ _ _ _ _ _ _ _ _ _ _)))) (fun h14 => (ih_j3 _ _ _ _ _ _ _ _ _ _ _))))))) (fun h12 => (ih_j3 _ _ _ _ _ _ _ _ _ _ _))))))) (fun h9 => (ih_j3 _ _ _ _ _ _ _ _ _ _ _)))))) (fun h7 => (ih_j3 _ _ _ _ _ _ _ _ _ _ _)))))) (fun h5 => (ih_j3 _ _ _ _ _ _ _ _ _ _ _)))))))) (fun h2 => (LeO.ite' (fun h3 => (ih_j3 _ _ _ _ _ _ _ _ _ _ _)) (fun h3 => (LeO.bne (fun h4 => (LeO.tst fun h6 => (LeO.rdI (by decide) h6 (LeO.bne (fun h7 => (LeO.tst fun h8 => (LeO.tst fun h9 => (LeO.rdI h8 h9 (LeO.bne (fun h10 => (LeO.ite' (fun h11 => (LeO.bind (laws_qSame.f.br k _ _) (fun y71 => (LeO.nob (fun h12 => (LeO.ite_f h2 (LeO.bind (laws_qOrdered.f.br k _) (fun y80 => (ih_j3 _ _ _ _ _ _ _ _ _ _ _))))) (fun h12 => (ih_j3 _ _ _ _ _ _ _ _ _ _ _)))))) (fun h11 => (LeO.ite_f h2 (LeO.bind (laws_qOrdered.f.br k _) (fun y88 => (ih_j3 _ _ _ _ _ _ _ _ _ _ _))))))) (fun h10 => (ih_j3 _ _ _ _ _ _ _ _ _ _ _))))))) (fun h7 => (ih_j3 _ _ _ _ _ _ _ _ _ _ _)))))) (fun h4 => (ih_j3 _ _ _ _ _ _ _ _ _ _ _)))))))) (fun h1 => (ih_j3 _ _ _ _ _ _ _ _ _ _ _)))))
  ·refine LeO.of (S.laws_FnAgesGuessed.j3.eq _ _ _ _ _ _ _ _ _ _ _) ?_
   unfold laws_FnAgesGuessed.j3
   exact (LeO.ite' (fun h0 => LeO.refl _) (fun h0 => (ih_l1 _ _ _ _ _ _ _ _ _ _ _ _)))
  ·refine LeO.of (S.laws_FnAgesGuessed.l1.eq _ _ _ _ _ _ _ _ _ _ _ _) ?_
   unfold laws_FnAgesGuessed.l1
   exact (LeO.dec (fun h0 => (LeO.tst fun h1 => (LeO.tst fun h2 => (LeO.rdI h1 h2 (LeO.bne (fun h3 => (LeO.bind (impl_AreAges.f.br _) (fun y11 => (ih_j4 _ _ _ _ _ _ _ _ _ _ _ _ _ _ _)))) (fun h3 => (ih_j4 _ _ _ _ _ _ _ _ _ _ _ _ _ _ _))))))) (fun h0 => (ih_l4 _ _ _ _ _ _ _ _ _ _)))
  ·refine LeO.of (S.laws_FnAgesGuessed.j4.eq _ _ _ _ _ _ _ _ _ _ _ _ _ _ _) ?_
   unfold laws_FnAgesGuessed.j4
   exact (LeO.ite' (fun h0 => LeO.refl _) (fun h0 => (ih_l2 _ _ _ _ _ _ _ _ _ _ _ _ _ _ _ _)))
  ·refine LeO.of (S.laws_FnAgesGuessed.l2.eq _ _ _ _ _ _ _ _ _ _ _ _ _ _ _ _) ?_
   unfold laws_FnAgesGuessed.l2
   exact (LeO.dec (fun h0 => (LeO.tst fun h1 => (LeO.tst fun h2 => (LeO.rdI h1 h2 (LeO.dec (fun h3 => (LeO.tst fun h4 => (LeO.rdI h1 h4 (LeO.bne (fun h5 => (ih_l2 _ _ _ _ _ _ _ _ _ _ _ _ _ _ _ _)) (fun h5 => LeO.refl _))))) (fun h3 => (ih_l2 _ _ _ _ _ _ _ _ _ _ _ _ _ _ _ _))))))) (fun h0 => (LeO.dec (fun h1 => (ih_l1 _ _ _ _ _ _ _ _ _ _ _ _)) (fun h1 => (ih_l3 _ _ _ _ _ _ _ _ _ _ _ _ _ _ _ _)))))
  ·refine LeO.of (S.laws_FnAgesGuessed.l3.eq _ _ _ _ _ _ _ _ _ _ _ _ _ _ _ _) ?_
   unfold laws_FnAgesGuessed.l3
   exact (LeO.dec (fun h0 => (LeO.tst fun h1 => (LeO.tst fun h2 => (LeO.rdI h1 h2 (LeO.bind (impl_DoesFit.f.br k _ _) (fun y3 => (LeO.nob (fun h3 => (LeO.nob (fun h4 => (ih_l3 _ _ _ _ _ _ _ _ _ _ _ _ _ _ _ _)) (fun h4 => LeO.refl _))) (fun h3 => LeO.refl _)))))))) (fun h0 => (ih_l1 _ _ _ _ _ _ _ _ _ _ _ _)))
  ·refine LeO.of (S.laws_FnAgesGuessed.l4.eq _ _ _ _ _ _ _ _ _ _) ?_
   unfold laws_FnAgesGuessed.l4
   exact (LeO.dec (fun h0 => (LeO.bind (impl_DropClue.f.br k _ _) (fun y2 => (LeO.bind (impl_CountSolutions.f.br k _) (fun y3 => (ih_j5 _ _ _ _ _ _ _ _ _ _ _ _ _ _)))))) (fun h0 => (LeO.bind (impl_ParsePuzzle.f.br k _) (fun y17 => (LeO.nob (fun h1 => (LeO.bind (laws_qPuzzle.f.br k _ _) (fun y18 => (LeO.nob (fun h2 => (ih_j6 _)) (fun h2 => LeO.refl _))))) (fun h1 => LeO.refl _))))))
  ·refine LeO.of (S.laws_FnAgesGuessed.j5.eq _ _ _ _ _ _ _ _ _ _ _ _ _ _) ?_
   unfold laws_FnAgesGuessed.j5
   exact (LeO.nob (fun h0 => (LeO.nob (fun h1 => (LeO.bind (laws_qHas.f.br k _ _) (fun y2 => (LeO.ite' (fun h2 => LeO.refl _) (fun h2 => (LeO.tst fun h3 => (LeO.tst fun h4 => (LeO.rdI h3 h4 (LeO.tst fun h5 => (LeO.tst fun h6 => (LeO.rdI h5 h6 (LeO.dec (fun h7 => LeO.refl _) (fun h7 => (LeO.dec (fun h8 => LeO.refl _) (fun h8 => (LeO.dec (fun h9 => LeO.refl _) (fun h9 => (ih_l4 _ _ _ _ _ _ _ _ _ _)))))))))))))))))) (fun h1 => LeO.refl _))) (fun h0 => LeO.refl _))
  ·refine LeO.of (S.laws_FnAgesGuessed.j6.eq _) ?_
   unfold laws_FnAgesGuessed.j6
   exact (LeO.bind (spec_DrawParsePuzzle.f.br k _) (fun y1 => (LeO.bind (impl_ParsePuzzle.f.br k _) (fun y2 => (ih_j7 _ _ _ _)))))
  ·refine LeO.of (S.laws_FnAgesGuessed.j7.eq _ _ _ _) ?_
   unfold laws_FnAgesGuessed.j7
   exact (LeO.bind (spec_ParsePuzzle.f.br k _) (fun y1 => (LeO.ite' (fun h0 => (ih_j8 _ _ _ _ _)) (fun h0 => (LeO.bind (laws_qPuzzle.f.br k _ _) (fun y4 => (ih_j8 _ _ _ _ _)))))))
  ·refine LeO.of (S.laws_FnAgesGuessed.j8.eq _ _ _ _ _) ?_
   unfold laws_FnAgesGuessed.j8
   exact (LeO.ite' (fun h0 => LeO.refl _) (fun h0 => (LeO.ite' (fun h1 => (LeO.bind (impl_PuzzleText.f.br k _) (fun y1 => (LeO.ite' (fun h2 => LeO.refl _) (fun h2 => LeO.refl _))))) (fun h1 => LeO.refl _))))
  ·refine LeO.of (S.laws_FnAgesGuessed.m5.eq _ _ _ _ _ _ _ _ _ _ _ _ _ _ _ _ _ _ _ _ _ _ _ _ _ _ _ _ _ _ _ _ _ _) ?_
   unfold laws_FnAgesGuessed.m5
   exact (LeO.bind (laws_qSame.f.br k _ _) (fun y1 => (LeO.nob (fun h0 => (LeO.ite' (fun h1 => (ih_m1 _ _ _ _ _ _ _ _ _ _ _ _ _ _ _ _ _ _ _ _ _ _ _ _ _ _ _ _ _)) (fun h1 => (LeO.bind (laws_qSame.f.br k _ _) (fun y5 => (LeO.nob (fun h2 => (LeO.ite' (fun h3 => (ih_m1 _ _ _ _ _ _ _ _ _ _ _ _ _ _ _ _ _ _ _ _ _ _ _ _ _ _ _ _ _)) (fun h3 => (LeO.ite' (fun h4 => (ih_m1 _ _ _ _ _ _ _ _ _ _ _ _ _ _ _ _ _ _ _ _ _ _ _ _ _ _ _ _ _)) (fun h4 => (ih_m6 _ _ _ _ _ _ _ _ _ _ _ _ _ _ _ _ _ _ _ _ _ _ _ _ _ _ _ _ _)))))) (fun h2 => (ih_m1 _ _ _ _ _ _ _ _ _ _ _ _ _ _ _ _ _ _ _ _ _ _ _ _ _ _ _ _ _)))))))) (fun h0 => (ih_m1 _ _ _ _ _ _ _ _ _ _ _ _ _ _ _ _ _ _ _ _ _ _ _ _ _ _ _ _ _)))))
  ·refine LeO.of (S.laws_FnAgesGuessed.m6.eq _ _ _ _ _ _ _ _ _ _ _ _ _ _ _ _ _ _ _ _ _ _ _ _ _ _ _ _ _) ?_
   unfold laws_FnAgesGuessed.m6
   exact (LeO.ite' (fun h0 => (ih_m2 _ _ _ _ _ _ _ _ _ _ _ _ _ _ _ _ _ _ _ _ _ _ _ _)) (fun h0 => (LeO.bind (laws_qSame.f.br k _ _) (fun y3 => (LeO.nob (fun h1 => (LeO.ite' (fun h2 => (ih_m2 _ _ _ _ _ _ _ _ _ _ _ _ _ _ _ _ _ _ _ _ _ _ _ _)) (fun h2 => (LeO.bind (laws_qSame.f.br k _ _) (fun y7 => (LeO.nob (fun h3 => (LeO.ite' (fun h4 => (ih_m2 _ _ _ _ _ _ _ _ _ _ _ _ _ _ _ _ _ _ _ _ _ _ _ _)) (fun h4 => (ih_m7 _ _ _ _ _ _ _ _ _ _ _ _ _ _ _ _ _ _ _ _ _ _ _ _)))) (fun h3 => (ih_m2 _ _ _ _ _ _ _ _ _ _ _ _ _ _ _ _ _ _ _ _ _ _ _ _)))))))) (fun h1 => (ih_m2 _ _ _ _ _ _ _ _ _ _ _ _ _ _ _ _ _ _ _ _ _ _ _ _)))))))
  ·refine LeO.of (S.laws_FnAgesGuessed.m7.eq _ _ _ _ _ _ _ _ _ _ _ _ _ _ _ _ _ _ _ _ _ _ _ _) ?_
   unfold laws_FnAgesGuessed.m7
   exact (LeO.bne (fun h0 => (LeO.ite' (fun h1 => (ih_m3 _ _ _ _ _ _ _ _ _ _ _ _ _ _ _ _ _ _ _ _ _)) (fun h1 => (LeO.ite' (fun h2 => (ih_m3 _ _ _ _ _ _ _ _ _ _ _ _ _ _ _ _ _ _ _ _ _)) (fun h2 => (LeO.bind (impl_IsPuzzle.f.br k _) (fun y7 => (LeO.ite' (fun h3 => (ih_m3 _ _ _ _ _ _ _ _ _ _ _ _ _ _ _ _ _ _ _ _ _)) (fun h3 => (LeO.bind (impl_IsPuzzle.f.br k _) (fun y10 => (LeO.bind (spec_IsPuzzle.f.br k _) (fun y11 => (LeO.ite' (fun h4 => (ih_m3 _ _ _ _ _ _ _ _ _ _ _ _ _ _ _ _ _ _ _ _ _)) (fun h4 => (ih_m8 _ _ _ _ _ _ _ _ _ _ _ _ _ _ _ _ _ _ _ _ _)))))))))))))))) (fun h0 => (ih_m3 _ _ _ _ _ _ _ _ _ _ _ _ _ _ _ _ _ _ _ _ _)))
  ·refine LeO.of (S.laws_FnAgesGuessed.m8.eq _ _ _ _ _ _ _ _ _ _ _ _ _ _ _ _ _ _ _ _ _) ?_
   unfold laws_FnAgesGuessed.m8
   exact (LeO.ite' (fun h0 => (ih_m4 _ _ _ _ _ _ _ _ _ _ _ _ _ _ _ _ _)) (fun h0 => (LeO.ite' (fun h1 => (LeO.ite' (fun h2 => (ih_m4 _ _ _ _ _ _ _ _ _ _ _ _ _ _ _ _ _)) (fun h2 => (LeO.ite' (fun h3 => (ih_m4 _ _ _ _ _ _ _ _ _ _ _ _ _ _ _ _ _)) (fun h3 => (LeO.ite' (fun h4 => (ih_m4 _ _ _ _ _ _ _ _ _ _ _ _ _ _ _ _ _)) (fun h4 => (LeO.ite' (fun h5 => (ih_m4 _ _ _ _ _ _ _ _ _ _ _ _ _ _ _ _ _)) (fun h5 => (ih_m9 _ _ _ _ _ _ _ _ _ _ _ _ _ _ _ _ _)))))))))) (fun h1 => (LeO.ite' (fun h2 => (ih_m4 _ _ _ _ _ _ _ _ _ _ _ _ _ _ _ _ _)) (fun h2 => (LeO.ite' (fun h3 => (ih_m4 _ _ _ _ _ _ _ _ _ _ _ _ _ _ _ _ _)) (fun h3 => (LeO.ite' (fun h4 => (ih_m4 _ _ _ _ _ _ _ _ _ _ _ _ _ _ _ _ _)) (fun h4 => (LeO.ite' (fun h5 => (ih_m4 _ _ _ _ _ _ _ _ _ _ _ _ _ _ _ _ _)) (fun h5 => (ih_m9 _ _ _ _ _ _ _ _ _ _ _ _ _ _ _ _ _)))))))))))))
  ·refine LeO.of (S.laws_FnAgesGuessed.m9.eq _ _ _ _ _ _ _ _ _ _ _ _ _ _ _ _ _) ?_
   unfold laws_FnAgesGuessed.m9
   exact (LeO.ite' (fun h0 => (ih_j2 _ _ _ _ _ _ _ _ _ _ _ _ _ _ _)) (fun h0 => (LeO.ite' (fun h1 => (LeO.ite' (fun h2 => (ih_j2 _ _ _ _ _ _ _ _ _ _ _ _ _ _ _)) (fun h2 => (ih_j2 _ _ _ _ _ _ _ _ _ _ _ _ _ _ _)))) (fun h1 => (LeO.ite' (fun h2 => (ih_j2 _ _ _ _ _ _ _ _ _ _ _ _ _ _ _)) (fun h2 => (ih_j2 _ _ _ _ _ _ _ _ _ _ _ _ _ _ _)))))))
theorem laws_FnAgesGuessed.f.br (k : Nat) (x0 : List Int) (x1 : List Int) : LeO (laws_FnAgesGuessed.f k x0 x1) (S.laws_FnAgesGuessed.f x0 x1) := by
 refine LeO.of (S.laws_FnAgesGuessed.f.eq _ _) ?_
 unfold laws_FnAgesGuessed.f
 have ih_j0 := (laws_FnAgesGuessed.br_l k).1
 exact (LeO.bind (laws_big.f.br _ _) (fun y1 => (LeO.ite' (fun h0 => LeO.refl _) (fun h0 => (LeO.bind (spec_DrawSolutions.f.br k _) (fun y2 => (LeO.bind (impl_Solutions.f.br k _) (fun y3 => (LeO.bind (spec_Solutions.f.br k _) (fun y4 => (LeO.bind (impl_CountSolutions.f.br k _) (fun y5 => (LeO.bind (spec_CountSolutions.f.br k _) (fun y6 => (LeO.bind (impl_FirstSolution.f.br k _) (fun y7 => (LeO.bind (spec_FirstSolution.f.br k _) (fun y8 => (LeO.bind (impl_SureAges.f.br k _) (fun y9 => (LeO.bind (spec_SureAges.f.br k _) (fun y10 => (ih_j0 _ _ _ _ _ _ _ _ _ _ _ _ _ _ _ _ _ _ _)))))))))))))))))))))))
end
end Go.Proofs.YtecdijlfnnminaaGreatDoor.Y
