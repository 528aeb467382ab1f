/- What the functions of this seat come to, over plain values. No condition. -/
import Derived.Test.YtecdijlfnnminaaGreatDoorK2
namespace Go.Proofs.YtecdijlfnnminaaGreatDoor.S
open Go Go.Proofs.YtecdijlfnnminaaGreatDoor.Eng Go.Proofs
set_option maxRecDepth 1000000
set_option linter.unusedVariables false
noncomputable def impl_PuzzleText.g : Gam := [(26, impl_IsPuzzle.sp), (47, impl_Puzzle_text.sp)]
theorem impl_PuzzleText.gok : GOkI Tryz.prog I impl_PuzzleText.g := ((GOkI.nil _ _).cons impl_Puzzle_text.ok).cons impl_IsPuzzle.ok
noncomputable def impl_PuzzleText.i : FI := ⟨Tryz.f22, body Tryz.f22, (.seq .nil (.seq (.seq .nil (.cond (.seq .nil .nil) .nil)) (.seq .nil .nil))), [], [], [.res (.tmp 2) (.v .str), .res (.tmp 3) (.v .bool)]⟩
noncomputable def impl_PuzzleText.sp : CSpec := mkSpec impl_PuzzleText.g T impl_PuzzleText.i
theorem impl_PuzzleText.ok : SpecOk Tryz.prog I 22 impl_PuzzleText.sp := mkSpec_ok hmix hI impl_PuzzleText.gok tok impl_PuzzleText.i Tryz.func22 (by kernel_rfl) (by kernel_rfl) (by kernel_rfl) (by kernel_rfl)
noncomputable def impl_PuzzleText.f (x0 : Int × (List (Int × Int × Int))) : Option ((List UInt8) × Bool) := run impl_PuzzleText.g T impl_PuzzleText.i [.v (.pair (.int .i64) (.slice (.pair (.int .i64) (.pair (.int .i64) (.int .i64))))) x0]
theorem impl_PuzzleText.f.eq (x0 : Int × (List (Int × Int × Int))) : impl_PuzzleText.f x0 =
 (impl_IsPuzzle.f (x0.1, x0.2)).bind fun y1 =>
 if (!y1) = true then
  some ([], false)
 else
  (impl_Puzzle_text.f (x0.1, x0.2)).bind fun y2 =>
  some (y2, true) := by kernel_rfl
noncomputable def spec_l1Num.g : Gam := []
theorem spec_l1Num.gok : GOkI Tryz.prog I spec_l1Num.g := GOkI.nil _ _
noncomputable def spec_l1Num.i : FI := ⟨Tryz.f76, body Tryz.f76, (.seq .nil (.seq (.seq .nil (.cond (.seq .nil .nil) .nil)) (.seq .nil .nil))), [], [], [.res (.tmp 2) (.v .str)]⟩
noncomputable def spec_l1Num.sp : CSpec := limSpec spec_l1Num.g T spec_l1Num.i 76
theorem spec_l1Num.ok : SpecOk Tryz.prog I 76 spec_l1Num.sp := limSpec_ok hmix hI spec_l1Num.gok tok spec_l1Num.i Tryz.func76 (by kernel_rfl) (by kernel_rfl) (by kernel_rfl) (by kernel_rfl)
noncomputable def spec_l1Num.r (k : Nat) (x0 : Int) : Option (List UInt8) := recO spec_l1Num.g T spec_l1Num.i 76 k [.v (.int .i64) x0]
noncomputable def spec_l1Num.f (x0 : Int) : Option (List UInt8) := lim fun k => spec_l1Num.r k x0
theorem spec_l1Num.r.eq (k : Nat) (x0 : Int) : spec_l1Num.r (k + 1) x0 =
 if (decide (x0 < 10)) = true then
  some ([(IntKind.u8.wrap (IntKind.i64.wrap (48 + x0)))].map fun n => UInt8.ofNat n.toNat)
 else
  (spec_l1Num.r k (IntKind.i64.wrap (x0.tdiv 10))).bind fun y5 =>
  (catI strMax y5 ([(IntKind.u8.wrap (IntKind.i64.wrap (48 + (x0.tmod 10))))].map fun n => UInt8.ofNat n.toNat)).bind fun y9 =>
  some y9 := by kernel_rfl
noncomputable def spec_pzText.g : Gam := [(76, spec_l1Num.sp)]
theorem spec_pzText.gok : GOkI Tryz.prog I spec_pzText.g := (GOkI.nil _ _).cons spec_l1Num.ok
noncomputable def spec_pzText.i : FI := ⟨Tryz.f48, body Tryz.f48, (.seq .nil (.seq .nil (.seq (.seq .nil (.blk (.loop [3, 11, 12, 13] [] (.seq .nil (.seq (.cond .nil .nil) (.seq (.blk (.seq .nil (.seq (.seq .nil (.cond .nil .nil)) .nil))) .nil)))))) (.seq .nil .nil)))), [], [], [.res (.tmp 2) (.v .str)]⟩
noncomputable def spec_pzText.sp : CSpec := mkSpec spec_pzText.g T spec_pzText.i
theorem spec_pzText.ok : SpecOk Tryz.prog I 48 spec_pzText.sp := mkSpec_ok hmix hI spec_pzText.gok tok spec_pzText.i Tryz.func48 (by kernel_rfl) (by kernel_rfl) (by kernel_rfl) (by kernel_rfl)
noncomputable def spec_pzText.f (x0 : Int × (List (Int × Int × Int))) : Option (List UInt8) := run spec_pzText.g T spec_pzText.i [.v (.pair (.int .i64) (.slice (.pair (.int .i64) (.pair (.int .i64) (.int .i64))))) x0]
noncomputable def spec_pzText.l0 (x3 : List UInt8) (x11 : List (Int × Int × Int)) (x12 : Int) (x13 : Int) : Option (List UInt8) := runAt spec_pzText.g T spec_pzText.i [true, true, false, true, false] [(3, .val .str x3), (11, .val (.slice (.pair (.int .i64) (.pair (.int .i64) (.int .i64)))) x11), (12, .val (.int .i64) x12), (13, .val (.int .i64) x13)] []
theorem spec_pzText.f.eq (x0 : Int × (List (Int × Int × Int))) : spec_pzText.f x0 =
 (spec_l1Num.f x0.1).bind fun y1 =>
 (catI strMax y1 [97]).bind fun y2 =>
 spec_pzText.l0 y2 x0.2 (x0.2.length : Int) 0 := by kernel_rfl
theorem spec_pzText.l0.eq (x3 : List UInt8) (x11 : List (Int × Int × Int)) (x12 : Int) (x13 : Int) : spec_pzText.l0 x3 x11 x12 x13 =
 if (decide (x13 < x12)) = true then
  (rdI x11 x13).bind fun y2 =>
  if (decide (x13 > 0)) = true then
   (catI strMax x3 [44]).bind fun y4 =>
   (spec_l1Num.f y2.1).bind fun y5 =>
   (catI strMax y5 [46]).bind fun y6 =>
   (spec_l1Num.f y2.2.1).bind fun y7 =>
   (catI strMax y6 y7).bind fun y8 =>
   (catI strMax y8 [46]).bind fun y9 =>
   (spec_l1Num.f y2.2.2).bind fun y10 =>
   (catI strMax y9 y10).bind fun y11 =>
   (catI strMax y4 y11).bind fun y12 =>
   spec_pzText.l0 y12 x11 x12 (IntKind.i64.wrap (x13 + 1))
  else
   (spec_l1Num.f y2.1).bind fun y14 =>
   (catI strMax y14 [46]).bind fun y15 =>
   (spec_l1Num.f y2.2.1).bind fun y16 =>
   (catI strMax y15 y16).bind fun y17 =>
   (catI strMax y17 [46]).bind fun y18 =>
   (spec_l1Num.f y2.2.2).bind fun y19 =>
   (catI strMax y18 y19).bind fun y20 =>
   (catI strMax x3 y20).bind fun y21 =>
   spec_pzText.l0 y21 x11 x12 (IntKind.i64.wrap (x13 + 1))
 else
  some x3 := (runAt_loop _ _ _ _ _ _).trans (by kernel_rfl)
noncomputable def spec_PuzzleText.g : Gam := [(39, spec_pzGood.sp), (48, spec_pzText.sp)]
theorem spec_PuzzleText.gok : GOkI Tryz.prog I spec_PuzzleText.g := ((GOkI.nil _ _).cons spec_pzText.ok).cons spec_pzGood.ok
noncomputable def spec_PuzzleText.i : FI := ⟨Tryz.f23, body Tryz.f23, (.seq .nil (.seq (.seq .nil (.cond (.seq .nil .nil) .nil)) (.seq .nil .nil))), [], [], [.res (.tmp 2) (.v .str), .res (.tmp 3) (.v .bool)]⟩
noncomputable def spec_PuzzleText.sp : CSpec := mkSpec spec_PuzzleText.g T spec_PuzzleText.i
theorem spec_PuzzleText.ok : SpecOk Tryz.prog I 23 spec_PuzzleText.sp := mkSpec_ok hmix hI spec_PuzzleText.gok tok spec_PuzzleText.i Tryz.func23 (by kernel_rfl) (by kernel_rfl) (by kernel_rfl) (by kernel_rfl)
noncomputable def spec_PuzzleText.f (x0 : Int × (List (Int × Int × Int))) : Option ((List UInt8) × Bool) := run spec_PuzzleText.g T spec_PuzzleText.i [.v (.pair (.int .i64) (.slice (.pair (.int .i64) (.pair (.int .i64) (.int .i64))))) x0]
theorem spec_PuzzleText.f.eq (x0 : Int × (List (Int × Int × Int))) : spec_PuzzleText.f x0 =
 (spec_pzGood.f (x0.1, x0.2)).bind fun y1 =>
 if (!y1) = true then
  some ([], false)
 else
  (spec_pzText.f (x0.1, x0.2)).bind fun y2 =>
  some (y2, true) := by kernel_rfl
noncomputable def laws_qSame.g : Gam := []
theorem laws_qSame.gok : GOkI Tryz.prog I laws_qSame.g := GOkI.nil _ _
noncomputable def laws_qSame.i : FI := ⟨Tryz.f25, body Tryz.f25, (.seq .nil (.seq (.seq .nil (.cond (.seq .nil .nil) .nil)) (.seq (.seq .nil (.blk (.loop [0, 1, 12, 13] [] (.seq .nil (.seq (.cond .nil .nil) (.seq (.blk (.seq .nil (.seq .nil (.cond (.seq .nil .nil) .nil)))) .nil)))))) (.seq .nil .nil)))), [], [], [.res (.tmp 4) (.v .bool)]⟩
noncomputable def laws_qSame.sp : CSpec := mkSpec laws_qSame.g T laws_qSame.i
theorem laws_qSame.ok : SpecOk Tryz.prog I 25 laws_qSame.sp := mkSpec_ok hmix hI laws_qSame.gok tok laws_qSame.i Tryz.func25 (by kernel_rfl) (by kernel_rfl) (by kernel_rfl) (by kernel_rfl)
noncomputable def laws_qSame.f (x0 : List Int) (x1 : List Int) : Option (Bool) := run laws_qSame.g T laws_qSame.i [.v (.slice (.int .i64)) x0, .v (.slice (.int .i64)) x1]
noncomputable def laws_qSame.l0 (x0 : List Int) (x1 : List Int) (x12 : Int) (x13 : Int) : Option (Bool) := runAt laws_qSame.g T laws_qSame.i [true, true, false, true, false] [(0, .val (.slice (.int .i64)) x0), (1, .val (.slice (.int .i64)) x1), (12, .val (.int .i64) x12), (13, .val (.int .i64) x13)] []
theorem laws_qSame.f.eq (x0 : List Int) (x1 : List Int) : laws_qSame.f x0 x1 =
 if ((x0.length : Int) != (x1.length : Int)) = true then
  some false
 else
  laws_qSame.l0 x0 x1 (x0.length : Int) 0 := by kernel_rfl
theorem laws_qSame.l0.eq (x0 : List Int) (x1 : List Int) (x12 : Int) (x13 : Int) : laws_qSame.l0 x0 x1 x12 x13 =
 if (decide (x13 < x12)) = true then
  (rdI x0 x13).bind fun y2 =>
  (rdI x1 x13).bind fun y3 =>
  if (y2 != y3) = true then
   some false
  else
   laws_qSame.l0 x0 x1 x12 (IntKind.i64.wrap (x13 + 1))
 else
  some true := (runAt_loop _ _ _ _ _ _).trans (by kernel_rfl)
noncomputable def laws_qRows.g : Gam := [(25, laws_qSame.sp)]
theorem laws_qRows.gok : GOkI Tryz.prog I laws_qRows.g := (GOkI.nil _ _).cons laws_qSame.ok
noncomputable def laws_qRows.i : FI := ⟨Tryz.f24, body Tryz.f24, (.seq .nil (.seq (.seq .nil (.cond (.seq .nil .nil) .nil)) (.seq (.seq .nil (.blk (.loop [0, 1, 12, 13] [] (.seq .nil (.seq (.cond .nil .nil) (.seq (.blk (.seq .nil (.seq .nil (.cond (.seq .nil .nil) .nil)))) .nil)))))) (.seq .nil .nil)))), [], [], [.res (.tmp 4) (.v .bool)]⟩
noncomputable def laws_qRows.sp : CSpec := mkSpec laws_qRows.g T laws_qRows.i
theorem laws_qRows.ok : SpecOk Tryz.prog I 24 laws_qRows.sp := mkSpec_ok hmix hI laws_qRows.gok tok laws_qRows.i Tryz.func24 (by kernel_rfl) (by kernel_rfl) (by kernel_rfl) (by kernel_rfl)
noncomputable def laws_qRows.f (x0 : List (List Int)) (x1 : List (List Int)) : Option (Bool) := run laws_qRows.g T laws_qRows.i [.v (.slice (.slice (.int .i64))) x0, .v (.slice (.slice (.int .i64))) x1]
noncomputable def laws_qRows.l0 (x0 : List (List Int)) (x1 : List (List Int)) (x12 : Int) (x13 : Int) : Option (Bool) := runAt laws_qRows.g T laws_qRows.i [true, true, false, true, false] [(0, .val (.slice (.slice (.int .i64))) x0), (1, .val (.slice (.slice (.int .i64))) x1), (12, .val (.int .i64) x12), (13, .val (.int .i64) x13)] []
theorem laws_qRows.f.eq (x0 : List (List Int)) (x1 : List (List Int)) : laws_qRows.f x0 x1 =
 if ((x0.length : Int) != (x1.length : Int)) = true then
  some false
 else
  laws_qRows.l0 x0 x1 (x0.length : Int) 0 := by kernel_rfl
theorem laws_qRows.l0.eq (x0 : List (List Int)) (x1 : List (List Int)) (x12 : Int) (x13 : Int) : laws_qRows.l0 x0 x1 x12 x13 =
 if (decide (x13 < x12)) = true then
  (rdI x0 x13).bind fun y2 =>
  (rdI x1 x13).bind fun y3 =>
  (laws_qSame.f y2 y3).bind fun y4 =>
  if (!y4) = true then
   some false
  else
   laws_qRows.l0 x0 x1 x12 (IntKind.i64.wrap (x13 + 1))
 else
  some true := (runAt_loop _ _ _ _ _ _).trans (by kernel_rfl)
noncomputable def spec_IsPuzzle.g : Gam := [(39, spec_pzGood.sp)]
theorem spec_IsPuzzle.gok : GOkI Tryz.prog I spec_IsPuzzle.g := (GOkI.nil _ _).cons spec_pzGood.ok
noncomputable def spec_IsPuzzle.i : FI := ⟨Tryz.f27, body Tryz.f27, (.seq .nil (.seq .nil .nil)), [], [], [.res (.tmp 2) (.v .bool)]⟩
noncomputable def spec_IsPuzzle.sp : CSpec := mkSpec spec_IsPuzzle.g T spec_IsPuzzle.i
theorem spec_IsPuzzle.ok : SpecOk Tryz.prog I 27 spec_IsPuzzle.sp := mkSpec_ok hmix hI spec_IsPuzzle.gok tok spec_IsPuzzle.i Tryz.func27 (by kernel_rfl) (by kernel_rfl) (by kernel_rfl) (by kernel_rfl)
noncomputable def spec_IsPuzzle.f (x0 : Int × (List (Int × Int × Int))) : Option (Bool) := run spec_IsPuzzle.g T spec_IsPuzzle.i [.v (.pair (.int .i64) (.slice (.pair (.int .i64) (.pair (.int .i64) (.int .i64))))) x0]
theorem spec_IsPuzzle.f.eq (x0 : Int × (List (Int × Int × Int))) : spec_IsPuzzle.f x0 =
 (spec_pzGood.f (x0.1, x0.2)).bind fun y1 =>
 some y1 := by kernel_rfl
noncomputable def laws_qBefore.g : Gam := []
theorem laws_qBefore.gok : GOkI Tryz.prog I laws_qBefore.g := GOkI.nil _ _
noncomputable def laws_qBefore.i : FI := ⟨Tryz.f53, body Tryz.f53, (.seq .nil (.seq (.seq .nil (.blk (.loop [0, 1, 7, 8, 9] [] (.seq .nil (.seq (.cond .nil .nil) (.seq (.blk (.seq .nil (.seq (.seq .nil (.cond (.seq .nil .nil) .nil)) (.seq .nil (.cond (.seq .nil .nil) .nil))))) .nil)))))) (.seq .nil .nil))), [], [], [.res (.tmp 4) (.v .bool)]⟩
noncomputable def laws_qBefore.sp : CSpec := mkSpec laws_qBefore.g T laws_qBefore.i
theorem laws_qBefore.ok : SpecOk Tryz.prog I 53 laws_qBefore.sp := mkSpec_ok hmix hI laws_qBefore.gok tok laws_qBefore.i Tryz.func53 (by kernel_rfl) (by kernel_rfl) (by kernel_rfl) (by kernel_rfl)
noncomputable def laws_qBefore.f (x0 : List Int) (x1 : List Int) : Option (Bool) := run laws_qBefore.g T laws_qBefore.i [.v (.slice (.int .i64)) x0, .v (.slice (.int .i64)) x1]
noncomputable def laws_qBefore.l0 (x0 : List Int) (x1 : List Int) (x7 : List Int) (x8 : Int) (x9 : Int) : Option (Bool) := runAt laws_qBefore.g T laws_qBefore.i [true, false, true, false] [(0, .val (.slice (.int .i64)) x0), (1, .val (.slice (.int .i64)) x1), (7, .val (.slice (.int .i64)) x7), (8, .val (.int .i64) x8), (9, .val (.int .i64) x9)] []
theorem laws_qBefore.f.eq (x0 : List Int) (x1 : List Int) : laws_qBefore.f x0 x1 =
 laws_qBefore.l0 x0 x1 x0 (x0.length : Int) 0 := by kernel_rfl
theorem laws_qBefore.l0.eq (x0 : List Int) (x1 : List Int) (x7 : List Int) (x8 : Int) (x9 : Int) : laws_qBefore.l0 x0 x1 x7 x8 x9 =
 if (decide (x9 < x8)) = true then
  (rdI x7 x9).bind fun y2 =>
  if (x9 == (x1.length : Int)) = true then
   some false
  else
   (rdI x1 x9).bind fun y4 =>
   if (y2 != y4) = true then
    (rdI x1 x9).bind fun y5 =>
    some (decide (y2 < y5))
   else
    laws_qBefore.l0 x0 x1 x7 x8 (IntKind.i64.wrap (x9 + 1))
 else
  some (decide ((x0.length : Int) < (x1.length : Int))) := (runAt_loop _ _ _ _ _ _).trans (by kernel_rfl)
noncomputable def laws_qOrdered.g : Gam := [(53, laws_qBefore.sp)]
theorem laws_qOrdered.gok : GOkI Tryz.prog I laws_qOrdered.g := (GOkI.nil _ _).cons laws_qBefore.ok
noncomputable def laws_qOrdered.i : FI := ⟨Tryz.f28, body Tryz.f28, (.seq .nil (.seq (.seq .nil (.blk (.loop [0, 3] [] (.seq (.seq .nil (.cond .nil .nil)) (.seq (.blk (.seq .nil (.cond (.seq .nil .nil) .nil))) .nil))))) (.seq .nil .nil))), [], [], [.res (.tmp 2) (.v .bool)]⟩
noncomputable def laws_qOrdered.sp : CSpec := mkSpec laws_qOrdered.g T laws_qOrdered.i
theorem laws_qOrdered.ok : SpecOk Tryz.prog I 28 laws_qOrdered.sp := mkSpec_ok hmix hI laws_qOrdered.gok tok laws_qOrdered.i Tryz.func28 (by kernel_rfl) (by kernel_rfl) (by kernel_rfl) (by kernel_rfl)
noncomputable def laws_qOrdered.f (x0 : List (List Int)) : Option (Bool) := run laws_qOrdered.g T laws_qOrdered.i [.v (.slice (.slice (.int .i64))) x0]
noncomputable def laws_qOrdered.l0 (x0 : List (List Int)) (x3 : Int) : Option (Bool) := runAt laws_qOrdered.g T laws_qOrdered.i [true, false, true, false] [(0, .val (.slice (.slice (.int .i64))) x0), (3, .val (.int .i64) x3)] []
theorem laws_qOrdered.f.eq (x0 : List (List Int)) : laws_qOrdered.f x0 =
 laws_qOrdered.l0 x0 1 := by kernel_rfl
theorem laws_qOrdered.l0.eq (x0 : List (List Int)) (x3 : Int) : laws_qOrdered.l0 x0 x3 =
 if (decide (x3 < (x0.length : Int))) = true then
  (rdI x0 (IntKind.i64.wrap (x3 - 1))).bind fun y4 =>
  (rdI x0 x3).bind fun y5 =>
  (laws_qBefore.f y4 y5).bind fun y6 =>
  if (!y6) = true then
   some false
  else
   laws_qOrdered.l0 x0 (IntKind.i64.wrap (x3 + 1))
 else
  some true := (runAt_loop _ _ _ _ _ _).trans (by kernel_rfl)
noncomputable def impl_areBetween_1.g : Gam := [(49, impl_between.sp)]
theorem impl_areBetween_1.gok : GOkI Tryz.prog I impl_areBetween_1.g := (GOkI.nil _ _).cons impl_between.ok
noncomputable def impl_areBetween_1.i : FI := ⟨Tryz.f79, body Tryz.f79, (.seq .nil (.seq .nil .nil)), [], [], [.res (.tmp 4) (.v .bool)]⟩
noncomputable def impl_areBetween_1.sp : CSpec := mkSpec impl_areBetween_1.g T impl_areBetween_1.i
theorem impl_areBetween_1.ok : SpecOk Tryz.prog I 79 impl_areBetween_1.sp := mkSpec_ok hmix hI impl_areBetween_1.gok tok impl_areBetween_1.i Tryz.func79 (by kernel_rfl) (by kernel_rfl) (by kernel_rfl) (by kernel_rfl)
noncomputable def impl_areBetween_1.f (x0 : Int) (x1 : Int) (x2 : Int) : Option (Bool) := run impl_areBetween_1.g T impl_areBetween_1.i [.v (.int .i64) x0, .cr (.int .i64) x1, .cr (.int .i64) x2]
theorem impl_areBetween_1.f.eq (x0 : Int) (x1 : Int) (x2 : Int) : impl_areBetween_1.f x0 x1 x2 =
 (impl_between.f x0 x1 x2).bind fun y1 =>
 some (!y1) := by kernel_rfl
noncomputable def slices_IndexFunc_97.g : Gam := [(79, impl_areBetween_1.sp)]
theorem slices_IndexFunc_97.gok : GOkI Tryz.prog I slices_IndexFunc_97.g := (GOkI.nil _ _).cons impl_areBetween_1.ok
noncomputable def slices_IndexFunc_97.i : FI := ⟨Tryz.f97, body Tryz.f97, (.seq .nil (.seq (.seq .nil (.blk (.loop [0, 1, 7, 8] [] (.seq .nil (.seq (.cond .nil .nil) (.seq (.blk (.seq .nil (.seq .nil (.cond (.seq .nil .nil) .nil)))) .nil)))))) (.seq .nil .nil))), [], [], [.res (.tmp 4) (.v (.int .i64))]⟩
noncomputable def slices_IndexFunc_97.sp : CSpec := mkSpec slices_IndexFunc_97.g T slices_IndexFunc_97.i
theorem slices_IndexFunc_97.ok : SpecOk Tryz.prog I 97 slices_IndexFunc_97.sp := mkSpec_ok hmix hI slices_IndexFunc_97.gok tok slices_IndexFunc_97.i Tryz.func97 (by kernel_rfl) (by kernel_rfl) (by kernel_rfl) (by kernel_rfl)
noncomputable def slices_IndexFunc_97.f (x0 : List Int) (x1_0 : Int) (x1_1 : Int) : Option (Int) := run slices_IndexFunc_97.g T slices_IndexFunc_97.i [.v (.slice (.int .i64)) x0, .clo (closure impl_areBetween_1.sp [.cr (.int .i64) x1_0, .cr (.int .i64) x1_1])]
noncomputable def slices_IndexFunc_97.l0 (x0 : List Int) (x1_0 : Int) (x1_1 : Int) (x7 : Int) (x8 : Int) : Option (Int) := runAt slices_IndexFunc_97.g T slices_IndexFunc_97.i [true, false, true, false] [(0, .val (.slice (.int .i64)) x0), (1, .clo (closure impl_areBetween_1.sp [.cr (.int .i64) x1_0, .cr (.int .i64) x1_1])), (7, .val (.int .i64) x7), (8, .val (.int .i64) x8)] []
theorem slices_IndexFunc_97.f.eq (x0 : List Int) (x1_0 : Int) (x1_1 : Int) : slices_IndexFunc_97.f x0 x1_0 x1_1 =
 slices_IndexFunc_97.l0 x0 x1_0 x1_1 (x0.length : Int) 0 := by kernel_rfl
theorem slices_IndexFunc_97.l0.eq (x0 : List Int) (x1_0 : Int) (x1_1 : Int) (x7 : Int) (x8 : Int) : slices_IndexFunc_97.l0 x0 x1_0 x1_1 x7 x8 =
 if (decide (x8 < x7)) = true then
  (rdI x0 x8).bind fun y2 =>
  ((impl_areBetween_1.f y2 x1_0 x1_1).bind some).bind fun y3 =>
  if y3 = true then
   some x8
  else
   slices_IndexFunc_97.l0 x0 x1_0 x1_1 x7 (IntKind.i64.wrap (x8 + 1))
 else
  some (-1) := (runAt_loop _ _ _ _ _ _).trans (by kernel_rfl)
noncomputable def slices_ContainsFunc_78.g : Gam := [(97, slices_IndexFunc_97.sp)]
theorem slices_ContainsFunc_78.gok : GOkI Tryz.prog I slices_ContainsFunc_78.g := (GOkI.nil _ _).cons slices_IndexFunc_97.ok
noncomputable def slices_ContainsFunc_78.i : FI := ⟨Tryz.f78, body Tryz.f78, (.seq .nil (.seq .nil .nil)), [], [], [.res (.tmp 4) (.v .bool)]⟩
noncomputable def slices_ContainsFunc_78.sp : CSpec := mkSpec slices_ContainsFunc_78.g T slices_ContainsFunc_78.i
theorem slices_ContainsFunc_78.ok : SpecOk Tryz.prog I 78 slices_ContainsFunc_78.sp := mkSpec_ok hmix hI slices_ContainsFunc_78.gok tok slices_ContainsFunc_78.i Tryz.func78 (by kernel_rfl) (by kernel_rfl) (by kernel_rfl) (by kernel_rfl)
noncomputable def slices_ContainsFunc_78.f (x0 : List Int) (x1_0 : Int) (x1_1 : Int) : Option (Bool) := run slices_ContainsFunc_78.g T slices_ContainsFunc_78.i [.v (.slice (.int .i64)) x0, .clo (closure impl_areBetween_1.sp [.cr (.int .i64) x1_0, .cr (.int .i64) x1_1])]
theorem slices_ContainsFunc_78.f.eq (x0 : List Int) (x1_0 : Int) (x1_1 : Int) : slices_ContainsFunc_78.f x0 x1_0 x1_1 =
 (slices_IndexFunc_97.f x0 x1_0 x1_1).bind fun y1 =>
 some (decide (y1 ≥ 0)) := by kernel_rfl
noncomputable def impl_areBetween.g : Gam := [(78, slices_ContainsFunc_78.sp), (79, impl_areBetween_1.sp)]
theorem impl_areBetween.gok : GOkI Tryz.prog I impl_areBetween.g := ((GOkI.nil _ _).cons impl_areBetween_1.ok).cons slices_ContainsFunc_78.ok
noncomputable def impl_areBetween.i : FI := ⟨Tryz.f54, body Tryz.f54, (.seq .nil (.seq .nil .nil)), [], [], [.res (.tmp 6) (.v .bool)]⟩
noncomputable def impl_areBetween.sp : CSpec := mkSpec impl_areBetween.g T impl_areBetween.i
theorem impl_areBetween.ok : SpecOk Tryz.prog I 54 impl_areBetween.sp := mkSpec_ok hmix hI impl_areBetween.gok tok impl_areBetween.i Tryz.func54 (by kernel_rfl) (by kernel_rfl) (by kernel_rfl) (by kernel_rfl)
noncomputable def impl_areBetween.f (x0 : List Int) (x1 : Int) (x2 : Int) : Option (Bool) := run impl_areBetween.g T impl_areBetween.i [.v (.slice (.int .i64)) x0, .v (.int .i64) x1, .v (.int .i64) x2]
theorem impl_areBetween.f.eq (x0 : List Int) (x1 : Int) (x2 : Int) : impl_areBetween.f x0 x1 x2 =
 (slices_ContainsFunc_78.f x0 x1 x2).bind fun y1 =>
 some (!y1) := by kernel_rfl
noncomputable def impl_AreAges.g : Gam := [(49, impl_between.sp), (54, impl_areBetween.sp)]
theorem impl_AreAges.gok : GOkI Tryz.prog I impl_AreAges.g := ((GOkI.nil _ _).cons impl_areBetween.ok).cons impl_between.ok
noncomputable def impl_AreAges.i : FI := ⟨Tryz.f29, body Tryz.f29, (.seq .nil (.seq .nil .nil)), [], [], [.res (.tmp 2) (.v .bool)]⟩
noncomputable def impl_AreAges.sp : CSpec := mkSpec impl_AreAges.g T impl_AreAges.i
theorem impl_AreAges.ok : SpecOk Tryz.prog I 29 impl_AreAges.sp := mkSpec_ok hmix hI impl_AreAges.gok tok impl_AreAges.i Tryz.func29 (by kernel_rfl) (by kernel_rfl) (by kernel_rfl) (by kernel_rfl)
noncomputable def impl_AreAges.f (x0 : List Int) : Option (Bool) := run impl_AreAges.g T impl_AreAges.i [.v (.slice (.int .i64)) x0]
theorem impl_AreAges.f.eq (x0 : List Int) : impl_AreAges.f x0 =
 (impl_between.f (x0.length : Int) 1 8).bind fun y2 =>
 if y2 = true then
  (impl_areBetween.f x0 0 120).bind fun y3 =>
  some (if true = true then y3 else false)
 else
  some false := by kernel_rfl
noncomputable def impl_areHidden.g : Gam := [(49, impl_between.sp), (54, impl_areBetween.sp)]
theorem impl_areHidden.gok : GOkI Tryz.prog I impl_areHidden.g := ((GOkI.nil _ _).cons impl_areBetween.ok).cons impl_between.ok
noncomputable def impl_areHidden.i : FI := ⟨Tryz.f55, body Tryz.f55, (.seq .nil (.seq .nil .nil)), [], [], [.res (.tmp 2) (.v .bool)]⟩
noncomputable def impl_areHidden.sp : CSpec := mkSpec impl_areHidden.g T impl_areHidden.i
theorem impl_areHidden.ok : SpecOk Tryz.prog I 55 impl_areHidden.sp := mkSpec_ok hmix hI impl_areHidden.gok tok impl_areHidden.i Tryz.func55 (by kernel_rfl) (by kernel_rfl) (by kernel_rfl) (by kernel_rfl)
noncomputable def impl_areHidden.f (x0 : List Int) : Option (Bool) := run impl_areHidden.g T impl_areHidden.i [.v (.slice (.int .i64)) x0]
theorem impl_areHidden.f.eq (x0 : List Int) : impl_areHidden.f x0 =
 (impl_between.f (x0.length : Int) 2 3).bind fun y2 =>
 if y2 = true then
  (impl_areBetween.f x0 1 12).bind fun y3 =>
  some (if true = true then y3 else false)
 else
  some false := by kernel_rfl
noncomputable def impl_DoesFit.g : Gam := [(55, impl_areHidden.sp), (52, impl_IsClue.sp), (56, impl_Clue_fits.sp)]
theorem impl_DoesFit.gok : GOkI Tryz.prog I impl_DoesFit.g := (((GOkI.nil _ _).cons impl_Clue_fits.ok).cons impl_IsClue.ok).cons impl_areHidden.ok
noncomputable def impl_DoesFit.i : FI := ⟨Tryz.f30, body Tryz.f30, (.seq .nil (.seq (.seq .nil (.cond (.seq .nil .nil) .nil)) (.seq .nil .nil))), [], [], [.res (.tmp 4) (.v .bool), .res (.tmp 5) (.v .bool)]⟩
noncomputable def impl_DoesFit.sp : CSpec := mkSpec impl_DoesFit.g T impl_DoesFit.i
theorem impl_DoesFit.ok : SpecOk Tryz.prog I 30 impl_DoesFit.sp := mkSpec_ok hmix hI impl_DoesFit.gok tok impl_DoesFit.i Tryz.func30 (by kernel_rfl) (by kernel_rfl) (by kernel_rfl) (by kernel_rfl)
noncomputable def impl_DoesFit.f (x0 : Int × Int × Int) (x1 : List Int) : Option (Bool × Bool) := run impl_DoesFit.g T impl_DoesFit.i [.v (.pair (.int .i64) (.pair (.int .i64) (.int .i64))) x0, .v (.slice (.int .i64)) x1]
theorem impl_DoesFit.f.eq (x0 : Int × Int × Int) (x1 : List Int) : impl_DoesFit.f x0 x1 =
 (impl_areHidden.f x1).bind fun y1 =>
 if (!y1) = true then
  some (false, false)
 else
  (impl_IsClue.f (x1.length : Int) (x0.1, x0.2.1, x0.2.2)).bind fun y3 =>
  if (if false = true then true else !y3) = true then
   some (false, false)
  else
   (impl_Clue_fits.f (x0.1, x0.2.1, x0.2.2) x1).bind fun y5 =>
   some (y5, true) := by kernel_rfl
noncomputable def impl_DropClue.g : Gam := [(26, impl_IsPuzzle.sp), (49, impl_between.sp), (45, impl_without.sp)]
theorem impl_DropClue.gok : GOkI Tryz.prog I impl_DropClue.g := (((GOkI.nil _ _).cons impl_without.ok).cons impl_between.ok).cons impl_IsPuzzle.ok
noncomputable def impl_DropClue.i : FI := ⟨Tryz.f31, body Tryz.f31, (.seq .nil (.seq (.seq .nil (.cond (.seq .nil .nil) .nil)) (.seq .nil .nil))), [], [], [.res (.cell 4 26) (.v (.pair (.int .i64) (.slice (.pair (.int .i64) (.pair (.int .i64) (.int .i64)))))), .res (.tmp 5) (.v .bool)]⟩
noncomputable def impl_DropClue.sp : CSpec := mkSpec impl_DropClue.g T impl_DropClue.i
theorem impl_DropClue.ok : SpecOk Tryz.prog I 31 impl_DropClue.sp := mkSpec_ok hmix hI impl_DropClue.gok tok impl_DropClue.i Tryz.func31 (by kernel_rfl) (by kernel_rfl) (by kernel_rfl) (by kernel_rfl)
noncomputable def impl_DropClue.f (x0 : Int × (List (Int × Int × Int))) (x1 : Int) : Option ((Int × (List (Int × Int × Int))) × Bool) := run impl_DropClue.g T impl_DropClue.i [.v (.pair (.int .i64) (.slice (.pair (.int .i64) (.pair (.int .i64) (.int .i64))))) x0, .v (.int .i64) x1]
theorem impl_DropClue.f.eq (x0 : Int × (List (Int × Int × Int))) (x1 : Int) : impl_DropClue.f x0 x1 =
 (impl_IsPuzzle.f (x0.1, x0.2)).bind fun y1 =>
 if (!y1) = true then
  some ((0, []), false)
 else
  (impl_between.f x1 0 (IntKind.i64.wrap ((x0.2.length : Int) - 1))).bind fun y4 =>
  if (if false = true then true else !y4) = true then
   some ((0, []), false)
  else
   (impl_without.f x0.2 x1).bind fun y6 =>
   some ((x0.1, y6), true) := by kernel_rfl
noncomputable def laws_qHas.g : Gam := []
theorem laws_qHas.gok : GOkI Tryz.prog I laws_qHas.g := GOkI.nil _ _
noncomputable def laws_qHas.i : FI := ⟨Tryz.f32, body Tryz.f32, (.seq .nil (.seq (.seq .nil (.blk (.loop [1, 7, 8, 9] [] (.seq .nil (.seq (.cond .nil .nil) (.seq (.blk (.seq .nil (.seq .nil (.cond (.seq .nil .nil) .nil)))) .nil)))))) (.seq .nil .nil))), [], [], [.res (.tmp 4) (.v .bool)]⟩
noncomputable def laws_qHas.sp : CSpec := mkSpec laws_qHas.g T laws_qHas.i
theorem laws_qHas.ok : SpecOk Tryz.prog I 32 laws_qHas.sp := mkSpec_ok hmix hI laws_qHas.gok tok laws_qHas.i Tryz.func32 (by kernel_rfl) (by kernel_rfl) (by kernel_rfl) (by kernel_rfl)
noncomputable def laws_qHas.f (x0 : List Int) (x1 : Int) : Option (Bool) := run laws_qHas.g T laws_qHas.i [.v (.slice (.int .i64)) x0, .v (.int .i64) x1]
noncomputable def laws_qHas.l0 (x1 : Int) (x7 : List Int) (x8 : Int) (x9 : Int) : Option (Bool) := runAt laws_qHas.g T laws_qHas.i [true, false, true, false] [(1, .val (.int .i64) x1), (7, .val (.slice (.int .i64)) x7), (8, .val (.int .i64) x8), (9, .val (.int .i64) x9)] []
theorem laws_qHas.f.eq (x0 : List Int) (x1 : Int) : laws_qHas.f x0 x1 =
 laws_qHas.l0 x1 x0 (x0.length : Int) 0 := by kernel_rfl
theorem laws_qHas.l0.eq (x1 : Int) (x7 : List Int) (x8 : Int) (x9 : Int) : laws_qHas.l0 x1 x7 x8 x9 =
 if (decide (x9 < x8)) = true then
  (rdI x7 x9).bind fun y2 =>
  if (y2 == x1) = true then
   some true
  else
   laws_qHas.l0 x1 x7 x8 (IntKind.i64.wrap (x9 + 1))
 else
  some false := (runAt_loop _ _ _ _ _ _).trans (by kernel_rfl)
noncomputable def impl_readNumbers.g : Gam := [(59, strings_Split.sp), (58, impl_readNumber.sp)]
theorem impl_readNumbers.gok : GOkI Tryz.prog I impl_readNumbers.g := ((GOkI.nil _ _).cons impl_readNumber.ok).cons strings_Split.ok
noncomputable def impl_readNumbers.i : FI := ⟨Tryz.f60, body Tryz.f60, (.seq .nil (.seq .nil (.seq (.seq .nil (.blk (.loop [6, 14, 15, 16] [] (.seq .nil (.seq (.cond .nil .nil) (.seq (.blk (.seq .nil (.seq .nil (.seq (.seq .nil (.cond (.seq .nil .nil) .nil)) .nil)))) .nil)))))) (.seq .nil .nil)))), [], [], [.res (.tmp 4) (.own 3 (.int .i64)), .res (.tmp 5) (.v .bool)]⟩
noncomputable def impl_readNumbers.sp : CSpec := mkSpec impl_readNumbers.g T impl_readNumbers.i
theorem impl_readNumbers.ok : SpecOk Tryz.prog I 60 impl_readNumbers.sp := mkSpec_ok hmix hI impl_readNumbers.gok tok impl_readNumbers.i Tryz.func60 (by kernel_rfl) (by kernel_rfl) (by kernel_rfl) (by kernel_rfl)
noncomputable def impl_readNumbers.f (x0 : List UInt8) (x1 : List UInt8) : Option ((List Int) × Bool) := run impl_readNumbers.g T impl_readNumbers.i [.v .str x0, .v .str x1]
noncomputable def impl_readNumbers.l0 (x6 : List Int) (x14 : List (List UInt8)) (x15 : Int) (x16 : Int) : Option ((List Int) × Bool) := runAt impl_readNumbers.g T impl_readNumbers.i [true, true, false, true, false] [(6, .own 3 (.int .i64) x6), (14, .val (.slice .str) x14), (15, .val (.int .i64) x15), (16, .val (.int .i64) x16)] []
theorem impl_readNumbers.f.eq (x0 : List UInt8) (x1 : List UInt8) : impl_readNumbers.f x0 x1 =
 (strings_Split.f x0 x1).bind fun y1 =>
 impl_readNumbers.l0 [] y1 (y1.length : Int) 0 := by kernel_rfl
theorem impl_readNumbers.l0.eq (x6 : List Int) (x14 : List (List UInt8)) (x15 : Int) (x16 : Int) : impl_readNumbers.l0 x6 x14 x15 x16 =
 if (decide (x16 < x15)) = true then
  (rdI x14 x16).bind fun y2 =>
  (impl_readNumber.f y2).bind fun y3 =>
  if (!y3.2) = true then
   some ([], false)
  else
   (catI (appMax 8) x6 [y3.1]).bind fun y4 =>
   impl_readNumbers.l0 y4 x14 x15 (IntKind.i64.wrap (x16 + 1))
 else
  some (x6, true) := (runAt_loop _ _ _ _ _ _).trans (by kernel_rfl)
noncomputable def impl_ParsePuzzle.g : Gam := [(57, strings_Cut.sp), (58, impl_readNumber.sp), (59, strings_Split.sp), (60, impl_readNumbers.sp), (26, impl_IsPuzzle.sp), (47, impl_Puzzle_text.sp)]
theorem impl_ParsePuzzle.gok : GOkI Tryz.prog I impl_ParsePuzzle.g := ((((((GOkI.nil _ _).cons impl_Puzzle_text.ok).cons impl_IsPuzzle.ok).cons impl_readNumbers.ok).cons strings_Split.ok).cons impl_readNumber.ok).cons strings_Cut.ok
noncomputable def impl_ParsePuzzle.i : FI := ⟨Tryz.f33, body Tryz.f33, (.seq .nil (.seq .nil (.seq .nil (.seq .nil (.cut [0, 2, 8, 9] [2, 9] (.seq .nil (.cond (.seq .nil (.blk (.loop [0, 2, 8, 9, 30, 31, 32] [2, 9] (.seq .nil (.seq (.cond .nil .nil) (.seq (.blk (.seq .nil (.seq .nil (.seq (.seq .nil (.cond (.seq .nil .nil) .nil)) .nil)))) .nil)))))) .nil)) (.seq (.seq .nil (.cond (.seq .nil .nil) .nil)) (.seq .nil .nil))))))), [3000026, 4000050], [], [.res (.cell 2 26) (.v (.pair (.int .i64) (.slice (.pair (.int .i64) (.pair (.int .i64) (.int .i64)))))), .res (.tmp 3) (.v .bool)]⟩
noncomputable def impl_ParsePuzzle.sp : CSpec := mkSpec impl_ParsePuzzle.g T impl_ParsePuzzle.i
theorem impl_ParsePuzzle.ok : SpecOk Tryz.prog I 33 impl_ParsePuzzle.sp := mkSpec_ok hmix hI impl_ParsePuzzle.gok tok impl_ParsePuzzle.i Tryz.func33 (by kernel_rfl) (by kernel_rfl) (by kernel_rfl) (by kernel_rfl)
noncomputable def impl_ParsePuzzle.f (x0 : List UInt8) : Option ((Int × (List (Int × Int × Int))) × Bool) := run impl_ParsePuzzle.g T impl_ParsePuzzle.i [.v .str x0]
noncomputable def impl_ParsePuzzle.l0 (x0 : List UInt8) (x8 : Bool) (x30 : List (List UInt8)) (x31 : Int) (x32 : Int) (xb2_0 : Int) (xb2_1 : List (Int × Int × Int)) (xb9_0 : Int) (xb9_1 : List (Int × Int × Int)) : Option ((Int × (List (Int × Int × Int))) × Bool) := runAt impl_ParsePuzzle.g T impl_ParsePuzzle.i [true, true, true, true, false, true, false, true, false] [(0, .val .str x0), (2, .ptr 2 0), (8, .val .bool x8), (9, .ptr 9 0), (30, .val (.slice .str) x30), (31, .val (.int .i64) x31), (32, .val (.int .i64) x32)] [(2, [⟨(.int .i64), xb2_0⟩, ⟨(.slice (.pair (.int .i64) (.pair (.int .i64) (.int .i64)))), xb2_1⟩]), (9, [⟨(.int .i64), xb9_0⟩, ownV 46 (.pair (.int .i64) (.pair (.int .i64) (.int .i64))) xb9_1])]
noncomputable def impl_ParsePuzzle.j0 (x0 : List UInt8) (x8 : Bool) (xb2_0 : Int) (xb2_1 : List (Int × Int × Int)) (xb9_0 : Int) (xb9_1 : List (Int × Int × Int)) : Option ((Int × (List (Int × Int × Int))) × Bool) := runJ impl_ParsePuzzle.g T impl_ParsePuzzle.i [true, true, true, true, true] [(0, .val .str x0), (2, .ptr 2 0), (8, .val .bool x8), (9, .ptr 9 0)] [(2, [⟨(.int .i64), xb2_0⟩, ⟨(.slice (.pair (.int .i64) (.pair (.int .i64) (.int .i64)))), xb2_1⟩]), (9, [⟨(.int .i64), xb9_0⟩, ownV 46 (.pair (.int .i64) (.pair (.int .i64) (.int .i64))) xb9_1])]
theorem impl_ParsePuzzle.f.eq (x0 : List UInt8) : impl_ParsePuzzle.f x0 =
 (strings_Cut.f x0 [97]).bind fun y1 =>
 (impl_readNumber.f y1.1).bind fun y2 =>
 if (!(y1.2.1 == [])) = true then
  (strings_Split.f y1.2.1 [44]).bind fun y4 =>
  impl_ParsePuzzle.l0 x0 y2.2 y4 (y4.length : Int) 0 0 [] y2.1 []
 else
  impl_ParsePuzzle.j0 x0 y2.2 0 [] y2.1 [] := by kernel_rfl
theorem impl_ParsePuzzle.l0.eq (x0 : List UInt8) (x8 : Bool) (x30 : List (List UInt8)) (x31 : Int) (x32 : Int) (xb2_0 : Int) (xb2_1 : List (Int × Int × Int)) (xb9_0 : Int) (xb9_1 : List (Int × Int × Int)) : impl_ParsePuzzle.l0 x0 x8 x30 x31 x32 xb2_0 xb2_1 xb9_0 xb9_1 =
 if (decide (x32 < x31)) = true then
  (rdI x30 x32).bind fun y2 =>
  (impl_readNumbers.f y2 [46]).bind fun y3 =>
  if (!y3.2) = true then
   some ((0, []), false)
  else
   if (if false = true then true else (y3.1.length : Int) != 3) = true then
    some ((0, []), false)
   else
    if (if false = true then true else (xb9_1.length : Int) == 6) = true then
     some ((0, []), false)
    else
     (rdI y3.1 0).bind fun y8 =>
     (rdI y3.1 1).bind fun y9 =>
     (rdI y3.1 2).bind fun y10 =>
     (catI (appMax 24) xb9_1 [(y8, y9, y10)]).bind fun y11 =>
     impl_ParsePuzzle.l0 x0 x8 x30 x31 (IntKind.i64.wrap (x32 + 1)) xb2_0 xb2_1 xb9_0 y11
 else
  impl_ParsePuzzle.j0 x0 x8 xb2_0 xb2_1 xb9_0 xb9_1 := (runAt_loop _ _ _ _ _ _).trans (by kernel_rfl)
theorem impl_ParsePuzzle.j0.eq (x0 : List UInt8) (x8 : Bool) (xb2_0 : Int) (xb2_1 : List (Int × Int × Int)) (xb9_0 : Int) (xb9_1 : List (Int × Int × Int)) : impl_ParsePuzzle.j0 x0 x8 xb2_0 xb2_1 xb9_0 xb9_1 =
 if (!x8) = true then
  some ((0, []), false)
 else
  (impl_IsPuzzle.f (xb9_0, xb9_1)).bind fun y1 =>
  if (if false = true then true else !y1) = true then
   some ((0, []), false)
  else
   (impl_Puzzle_text.f (xb9_0, xb9_1)).bind fun y3 =>
   if (if false = true then true else (!(y3 == x0))) = true then
    some ((0, []), false)
   else
    some ((xb9_0, xb9_1), true) := (runJ_eq _ _ _ _ _ _).trans (by kernel_rfl)
noncomputable def laws_qPuzzle.g : Gam := []
theorem laws_qPuzzle.gok : GOkI Tryz.prog I laws_qPuzzle.g := GOkI.nil _ _
noncomputable def laws_qPuzzle.i : FI := ⟨Tryz.f34, body Tryz.f34, (.seq .nil (.seq (.cut [2, 3, 19] [2, 3] .nil (.cond (.seq .nil .nil) .nil)) (.seq (.seq .nil (.blk (.loop [2, 3, 22, 23] [2, 3] (.seq .nil (.seq (.cond .nil .nil) (.seq (.blk (.seq .nil (.seq .nil (.cond (.seq .nil .nil) .nil)))) .nil)))))) (.seq .nil .nil)))), [], [], [.res (.tmp 4) (.v .bool)]⟩
noncomputable def laws_qPuzzle.sp : CSpec := mkSpec laws_qPuzzle.g T laws_qPuzzle.i
theorem laws_qPuzzle.ok : SpecOk Tryz.prog I 34 laws_qPuzzle.sp := mkSpec_ok hmix hI laws_qPuzzle.gok tok laws_qPuzzle.i Tryz.func34 (by kernel_rfl) (by kernel_rfl) (by kernel_rfl) (by kernel_rfl)
noncomputable def laws_qPuzzle.f (x0 : Int × (List (Int × Int × Int))) (x1 : Int × (List (Int × Int × Int))) : Option (Bool) := run laws_qPuzzle.g T laws_qPuzzle.i [.v (.pair (.int .i64) (.slice (.pair (.int .i64) (.pair (.int .i64) (.int .i64))))) x0, .v (.pair (.int .i64) (.slice (.pair (.int .i64) (.pair (.int .i64) (.int .i64))))) x1]
noncomputable def laws_qPuzzle.j0 (x19 : Bool) (xb2_0 : Int) (xb2_1 : List (Int × Int × Int)) (xb3_0 : Int) (xb3_1 : List (Int × Int × Int)) : Option (Bool) := runJ laws_qPuzzle.g T laws_qPuzzle.i [true, false, true] [(2, .ptr 2 0), (3, .ptr 3 0), (19, .val .bool x19)] [(2, [⟨(.int .i64), xb2_0⟩, ⟨(.slice (.pair (.int .i64) (.pair (.int .i64) (.int .i64)))), xb2_1⟩]), (3, [⟨(.int .i64), xb3_0⟩, ⟨(.slice (.pair (.int .i64) (.pair (.int .i64) (.int .i64)))), xb3_1⟩])]
noncomputable def laws_qPuzzle.l0 (x22 : Int) (x23 : Int) (xb2_0 : Int) (xb2_1 : List (Int × Int × Int)) (xb3_0 : Int) (xb3_1 : List (Int × Int × Int)) : Option (Bool) := runAt laws_qPuzzle.g T laws_qPuzzle.i [true, true, false, true, false] [(2, .ptr 2 0), (3, .ptr 3 0), (22, .val (.int .i64) x22), (23, .val (.int .i64) x23)] [(2, [⟨(.int .i64), xb2_0⟩, ⟨(.slice (.pair (.int .i64) (.pair (.int .i64) (.int .i64)))), xb2_1⟩]), (3, [⟨(.int .i64), xb3_0⟩, ⟨(.slice (.pair (.int .i64) (.pair (.int .i64) (.int .i64)))), xb3_1⟩])]
theorem laws_qPuzzle.f.eq (x0 : Int × (List (Int × Int × Int))) (x1 : Int × (List (Int × Int × Int))) : laws_qPuzzle.f x0 x1 =
 if (x0.1 != x1.1) = true then
  laws_qPuzzle.j0 true x0.1 x0.2 x1.1 x1.2
 else
  laws_qPuzzle.j0 (if false = true then true else (x0.2.length : Int) != (x1.2.length : Int)) x0.1 x0.2 x1.1 x1.2 := by kernel_rfl
theorem laws_qPuzzle.j0.eq (x19 : Bool) (xb2_0 : Int) (xb2_1 : List (Int × Int × Int)) (xb3_0 : Int) (xb3_1 : List (Int × Int × Int)) : laws_qPuzzle.j0 x19 xb2_0 xb2_1 xb3_0 xb3_1 =
 if x19 = true then
  some false
 else
  laws_qPuzzle.l0 (xb2_1.length : Int) 0 xb2_0 xb2_1 xb3_0 xb3_1 := (runJ_eq _ _ _ _ _ _).trans (by kernel_rfl)
theorem laws_qPuzzle.l0.eq (x22 : Int) (x23 : Int) (xb2_0 : Int) (xb2_1 : List (Int × Int × Int)) (xb3_0 : Int) (xb3_1 : List (Int × Int × Int)) : laws_qPuzzle.l0 x22 x23 xb2_0 xb2_1 xb3_0 xb3_1 =
 if (decide (x23 < x22)) = true then
  (rdI xb2_1 x23).bind fun y2 =>
  (rdI xb3_1 x23).bind fun y3 =>
  if (!((y2.1 == y3.1) && ((y2.2.1 == y3.2.1) && (y2.2.2 == y3.2.2)))) = true then
   some false
  else
   laws_qPuzzle.l0 x22 (IntKind.i64.wrap (x23 + 1)) xb2_0 xb2_1 xb3_0 xb3_1
 else
  some true := (runAt_loop _ _ _ _ _ _).trans (by kernel_rfl)
noncomputable def spec_l1Cur_spoilt.g : Gam := [(87, spec_l1Cur_pick.sp)]
theorem spec_l1Cur_spoilt.gok : GOkI Tryz.prog I spec_l1Cur_spoilt.g := (GOkI.nil _ _).cons spec_l1Cur_pick.ok
noncomputable def spec_l1Cur_spoilt.i : FI := ⟨Tryz.f63, body Tryz.f63, (.seq .nil (.seq (.seq .nil (.blk (.loop [0, 1, 2, 7] [1000000] (.seq (.cut [0, 1, 2, 7, 19] [1000000] .nil (.cond .nil .nil)) (.seq (.blk (.seq .nil (.seq .nil (.seq .nil (.blk (.seq .nil (.cond .nil (.seq .nil (.cond .nil .nil))))))))) .nil))))) (.seq .nil .nil))), [], [1000000], [.res (.tmp 6) (.v .str), .box 1000000 0 (.v (.slice (.int .u8))), .box 1000000 1 (.v (.int .i64)), .box 1000000 2 (.v (.int .u64))]⟩
noncomputable def spec_l1Cur_spoilt.sp : CSpec := mkSpec spec_l1Cur_spoilt.g T spec_l1Cur_spoilt.i
theorem spec_l1Cur_spoilt.ok : SpecOk Tryz.prog I 63 spec_l1Cur_spoilt.sp := mkSpec_ok hmix hI spec_l1Cur_spoilt.gok tok spec_l1Cur_spoilt.i Tryz.func63 (by kernel_rfl) (by kernel_rfl) (by kernel_rfl) (by kernel_rfl)
noncomputable def spec_l1Cur_spoilt.f (x0_0 : List Int) (x0_1 : Int) (x0_2 : Int) (x1 : List UInt8) (x2 : List UInt8) : Option ((List UInt8) × (List Int) × Int × Int) := run spec_l1Cur_spoilt.g T spec_l1Cur_spoilt.i [.bx [⟨(.slice (.int .u8)), x0_0⟩, ⟨(.int .i64), x0_1⟩, ⟨(.int .u64), x0_2⟩], .v .str x1, .v .str x2]
noncomputable def spec_l1Cur_spoilt.l0 (x1 : List UInt8) (x2 : List UInt8) (x7 : Int) (x0_0 : List Int) (x0_1 : Int) (x0_2 : Int) : Option ((List UInt8) × (List Int) × Int × Int) := runAt spec_l1Cur_spoilt.g T spec_l1Cur_spoilt.i [true, false, true, false] [(0, .ptr 1000000 0), (1, .val .str x1), (2, .val .str x2), (7, .val (.int .i64) x7)] [(1000000, [⟨(.slice (.int .u8)), x0_0⟩, ⟨(.int .i64), x0_1⟩, ⟨(.int .u64), x0_2⟩])]
noncomputable def spec_l1Cur_spoilt.j0 (x1 : List UInt8) (x2 : List UInt8) (x7 : Int) (x19 : Bool) (x0_0 : List Int) (x0_1 : Int) (x0_2 : Int) : Option ((List UInt8) × (List Int) × Int × Int) := runJ spec_l1Cur_spoilt.g T spec_l1Cur_spoilt.i [true, false, true, false, false, false, true] [(0, .ptr 1000000 0), (1, .val .str x1), (2, .val .str x2), (7, .val (.int .i64) x7), (19, .val .bool x19)] [(1000000, [⟨(.slice (.int .u8)), x0_0⟩, ⟨(.int .i64), x0_1⟩, ⟨(.int .u64), x0_2⟩])]
theorem spec_l1Cur_spoilt.f.eq (x0_0 : List Int) (x0_1 : Int) (x0_2 : Int) (x1 : List UInt8) (x2 : List UInt8) : spec_l1Cur_spoilt.f x0_0 x0_1 x0_2 x1 x2 =
 (spec_l1Cur_pick.f x0_0 x0_1 x0_2 2).bind fun y1 =>
 spec_l1Cur_spoilt.l0 x1 x2 (IntKind.i64.wrap (1 + y1.1)) y1.2.1 y1.2.2.1 y1.2.2.2 := by kernel_rfl
theorem spec_l1Cur_spoilt.l0.eq (x1 : List UInt8) (x2 : List UInt8) (x7 : Int) (x0_0 : List Int) (x0_1 : Int) (x0_2 : Int) : spec_l1Cur_spoilt.l0 x1 x2 x7 x0_0 x0_1 x0_2 =
 if (decide (x7 > 0)) = true then
  spec_l1Cur_spoilt.j0 x1 x2 x7 (if true = true then (decide ((x1.length : Int) > 0)) else false) x0_0 x0_1 x0_2
 else
  spec_l1Cur_spoilt.j0 x1 x2 x7 false x0_0 x0_1 x0_2 := (runAt_loop _ _ _ _ _ _).trans (by kernel_rfl)
theorem spec_l1Cur_spoilt.j0.eq (x1 : List UInt8) (x2 : List UInt8) (x7 : Int) (x19 : Bool) (x0_0 : List Int) (x0_1 : Int) (x0_2 : Int) : spec_l1Cur_spoilt.j0 x1 x2 x7 x19 x0_0 x0_1 x0_2 =
 if x19 = true then
  (spec_l1Cur_pick.f x0_0 x0_1 x0_2 (x1.length : Int)).bind fun y2 =>
  (spec_l1Cur_pick.f y2.2.1 y2.2.2.1 y2.2.2.2 (x2.length : Int)).bind fun y4 =>
  (rdI x2 y4.1).bind fun y5 =>
  (spec_l1Cur_pick.f y4.2.1 y4.2.2.1 y4.2.2.2 3).bind fun y7 =>
  if (y7.1 == 0) = true then
   (subI x1 0 y2.1).bind fun y9 =>
   (catI strMax y9 ([(y5.toNat : Int)].map fun n => UInt8.ofNat n.toNat)).bind fun y10 =>
   (subI x1 y2.1 x1.length).bind fun y11 =>
   (catI strMax y10 y11).bind fun y12 =>
   spec_l1Cur_spoilt.l0 y12 x2 (IntKind.i64.wrap (x7 - 1)) y7.2.1 y7.2.2.1 y7.2.2.2
  else
   if (y7.1 == 1) = true then
    (subI x1 0 y2.1).bind fun y15 =>
    (catI strMax y15 ([(y5.toNat : Int)].map fun n => UInt8.ofNat n.toNat)).bind fun y16 =>
    (subI x1 (IntKind.i64.wrap (y2.1 + 1)) x1.length).bind fun y18 =>
    (catI strMax y16 y18).bind fun y19 =>
    spec_l1Cur_spoilt.l0 y19 x2 (IntKind.i64.wrap (x7 - 1)) y7.2.1 y7.2.2.1 y7.2.2.2
   else
    (subI x1 0 y2.1).bind fun y21 =>
    (subI x1 (IntKind.i64.wrap (y2.1 + 1)) x1.length).bind fun y23 =>
    (catI strMax y21 y23).bind fun y24 =>
    spec_l1Cur_spoilt.l0 y24 x2 (IntKind.i64.wrap (x7 - 1)) y7.2.1 y7.2.2.1 y7.2.2.2
 else
  some (x1, x0_0, x0_1, x0_2) := (runJ_eq _ _ _ _ _ _).trans (by kernel_rfl)
noncomputable def spec_DrawParsePuzzle.g : Gam := [(61, spec_l1Cur_surePuzzle_w.sp), (48, spec_pzText.sp), (62, spec_l1Cur_one.sp), (63, spec_l1Cur_spoilt.sp)]
theorem spec_DrawParsePuzzle.gok : GOkI Tryz.prog I spec_DrawParsePuzzle.g := ((((GOkI.nil _ _).cons spec_l1Cur_spoilt.ok).cons spec_l1Cur_one.ok).cons spec_pzText.ok).cons spec_l1Cur_surePuzzle_w.ok
noncomputable def spec_DrawParsePuzzle.i : FI := ⟨Tryz.f35, body Tryz.f35, (.seq .nil (.seq .nil (.seq .nil (.seq (.seq .nil (.cond .nil .nil)) (.seq .nil .nil))))), [], [], [.res (.tmp 2) (.v .str)]⟩
noncomputable def spec_DrawParsePuzzle.sp : CSpec := mkSpec spec_DrawParsePuzzle.g T spec_DrawParsePuzzle.i
theorem spec_DrawParsePuzzle.ok : SpecOk Tryz.prog I 35 spec_DrawParsePuzzle.sp := mkSpec_ok hmix hI spec_DrawParsePuzzle.gok tok spec_DrawParsePuzzle.i Tryz.func35 (by kernel_rfl) (by kernel_rfl) (by kernel_rfl) (by kernel_rfl)
noncomputable def spec_DrawParsePuzzle.f (x0 : List Int) : Option (List UInt8) := run spec_DrawParsePuzzle.g T spec_DrawParsePuzzle.i [.v (.slice (.int .u8)) x0]
theorem spec_DrawParsePuzzle.f.eq (x0 : List Int) : spec_DrawParsePuzzle.f x0 =
 (spec_l1Cur_surePuzzle_w.f x0 0 0 4).bind fun y1 =>
 (spec_pzText.f y1.1).bind fun y2 =>
 (spec_l1Cur_one.f y1.2.1 y1.2.2.1 y1.2.2.2 3).bind fun y3 =>
 if y3.1 = true then
  (spec_l1Cur_spoilt.f y3.2.1 y3.2.2.1 y3.2.2.2 y2 [48, 49, 50, 51, 52, 53, 54, 46, 44, 97]).bind fun y4 =>
  some y4.1
 else
  some y2 := by kernel_rfl
noncomputable def spec_l1Split.g : Gam := []
theorem spec_l1Split.gok : GOkI Tryz.prog I spec_l1Split.g := GOkI.nil _ _
noncomputable def spec_l1Split.i : FI := ⟨Tryz.f88, body Tryz.f88, (.seq .nil (.seq .nil (.seq .nil (.seq (.seq .nil (.blk (.loop [0, 1, 5, 6, 7] [] (.seq (.seq .nil (.cond .nil .nil)) (.seq (.blk (.seq .nil (.cond (.seq .nil .nil) .nil))) .nil))))) (.seq .nil .nil))))), [], [], [.res (.tmp 4) (.own 9 .str)]⟩
noncomputable def spec_l1Split.sp : CSpec := mkSpec spec_l1Split.g T spec_l1Split.i
theorem spec_l1Split.ok : SpecOk Tryz.prog I 88 spec_l1Split.sp := mkSpec_ok hmix hI spec_l1Split.gok tok spec_l1Split.i Tryz.func88 (by kernel_rfl) (by kernel_rfl) (by kernel_rfl) (by kernel_rfl)
noncomputable def spec_l1Split.f (x0 : List UInt8) (x1 : Int) : Option (List (List UInt8)) := run spec_l1Split.g T spec_l1Split.i [.v .str x0, .v (.int .u8) x1]
noncomputable def spec_l1Split.l0 (x0 : List UInt8) (x1 : Int) (x5 : List (List UInt8)) (x6 : Int) (x7 : Int) : Option (List (List UInt8)) := runAt spec_l1Split.g T spec_l1Split.i [true, true, true, false, true, false] [(0, .val .str x0), (1, .val (.int .u8) x1), (5, .own 9 .str x5), (6, .val (.int .i64) x6), (7, .val (.int .i64) x7)] []
theorem spec_l1Split.f.eq (x0 : List UInt8) (x1 : Int) : spec_l1Split.f x0 x1 =
 spec_l1Split.l0 x0 x1 [] 0 0 := by kernel_rfl
theorem spec_l1Split.l0.eq (x0 : List UInt8) (x1 : Int) (x5 : List (List UInt8)) (x6 : Int) (x7 : Int) : spec_l1Split.l0 x0 x1 x5 x6 x7 =
 if (decide (x7 < (x0.length : Int))) = true then
  (rdI x0 x7).bind fun y3 =>
  if ((y3.toNat : Int) == x1) = true then
   (subI x0 x6 x7).bind fun y5 =>
   (catI (appMax 16) x5 [y5]).bind fun y6 =>
   spec_l1Split.l0 x0 x1 y6 (IntKind.i64.wrap (x7 + 1)) (IntKind.i64.wrap (x7 + 1))
  else
   spec_l1Split.l0 x0 x1 x5 x6 (IntKind.i64.wrap (x7 + 1))
 else
  (subI x0 x6 x0.length).bind fun y10 =>
  (catI (appMax 16) x5 [y10]).bind fun y11 =>
  some y11 := (runAt_loop _ _ _ _ _ _).trans (by kernel_rfl)
noncomputable def spec_l1Read.g : Gam := [(92, spec_l1In.sp)]
theorem spec_l1Read.gok : GOkI Tryz.prog I spec_l1Read.g := (GOkI.nil _ _).cons spec_l1In.ok
noncomputable def spec_l1Read.i : FI := ⟨Tryz.f89, body Tryz.f89, (.seq .nil (.seq (.cut [0, 18] [] .nil (.cond (.seq .nil .nil) .nil)) (.seq .nil (.seq (.seq .nil (.blk (.loop [0, 3, 4] [] (.seq (.seq .nil (.cond .nil .nil)) (.seq (.blk (.seq (.seq .nil (.cond (.seq .nil .nil) .nil)) .nil)) .nil))))) (.seq .nil .nil))))), [], [], [.res (.tmp 2) (.v (.int .i64))]⟩
noncomputable def spec_l1Read.sp : CSpec := mkSpec spec_l1Read.g T spec_l1Read.i
theorem spec_l1Read.ok : SpecOk Tryz.prog I 89 spec_l1Read.sp := mkSpec_ok hmix hI spec_l1Read.gok tok spec_l1Read.i Tryz.func89 (by kernel_rfl) (by kernel_rfl) (by kernel_rfl) (by kernel_rfl)
noncomputable def spec_l1Read.f (x0 : List UInt8) : Option (Int) := run spec_l1Read.g T spec_l1Read.i [.v .str x0]
noncomputable def spec_l1Read.j0 (x0 : List UInt8) (x18 : Bool) : Option (Int) := runJ spec_l1Read.g T spec_l1Read.i [true, false, true] [(0, .val .str x0), (18, .val .bool x18)] []
noncomputable def spec_l1Read.l0 (x0 : List UInt8) (x3 : Int) (x4 : Int) : Option (Int) := runAt spec_l1Read.g T spec_l1Read.i [true, true, true, false, true, false] [(0, .val .str x0), (3, .val (.int .i64) x3), (4, .val (.int .i64) x4)] []
theorem spec_l1Read.f.eq (x0 : List UInt8) : spec_l1Read.f x0 =
 (spec_l1In.f (x0.length : Int) 1 6).bind fun y2 =>
 if (!y2) = true then
  spec_l1Read.j0 x0 true
 else
  (rdI x0 0).bind fun y17 =>
  if ((y17.toNat : Int) == 48) = true then
   spec_l1Read.j0 x0 (if false = true then true else (if true = true then (decide ((x0.length : Int) > 1)) else false))
  else
   spec_l1Read.j0 x0 false := by kernel_rfl
theorem spec_l1Read.j0.eq (x0 : List UInt8) (x18 : Bool) : spec_l1Read.j0 x0 x18 =
 if x18 = true then
  some (-1)
 else
  spec_l1Read.l0 x0 0 0 := (runJ_eq _ _ _ _ _ _).trans (by kernel_rfl)
theorem spec_l1Read.l0.eq (x0 : List UInt8) (x3 : Int) (x4 : Int) : spec_l1Read.l0 x0 x3 x4 =
 if (decide (x4 < (x0.length : Int))) = true then
  (rdI x0 x4).bind fun y3 =>
  if (decide ((y3.toNat : Int) < 48)) = true then
   some (-1)
  else
   (rdI x0 x4).bind fun y6 =>
   if (if false = true then true else (decide ((y6.toNat : Int) > 57))) = true then
    some (-1)
   else
    (rdI x0 x4).bind fun y11 =>
    spec_l1Read.l0 x0 (IntKind.i64.wrap ((IntKind.i64.wrap (10 * x3)) + (IntKind.i64.wrap (IntKind.u8.wrap ((y11.toNat : Int) - 48))))) (IntKind.i64.wrap (x4 + 1))
 else
  some x3 := (runAt_loop _ _ _ _ _ _).trans (by kernel_rfl)
noncomputable def spec_pzParse.g : Gam := [(88, spec_l1Split.sp), (89, spec_l1Read.sp), (39, spec_pzGood.sp), (48, spec_pzText.sp)]
theorem spec_pzParse.gok : GOkI Tryz.prog I spec_pzParse.g := ((((GOkI.nil _ _).cons spec_pzText.ok).cons spec_pzGood.ok).cons spec_l1Read.ok).cons spec_l1Split.ok
noncomputable def spec_pzParse.i : FI := ⟨Tryz.f64, body Tryz.f64, (.seq .nil (.seq .nil (.seq (.cut [0, 2, 4, 18] [2] .nil (.cond (.seq .nil .nil) .nil)) (.seq .nil (.seq (.seq .nil (.cond (.seq .nil (.blk (.loop [0, 2, 5, 33, 34, 35] [2, 5] (.seq .nil (.seq (.cond .nil .nil) (.seq (.blk (.seq .nil (.seq .nil (.seq (.seq .nil (.cond (.seq .nil .nil) .nil)) .nil)))) .nil)))))) .nil)) (.seq .nil .nil)))))), [3000024, 7000014], [], [.res (.cell 2 26) (.v (.pair (.int .i64) (.slice (.pair (.int .i64) (.pair (.int .i64) (.int .i64)))))), .res (.tmp 3) (.v .bool)]⟩
noncomputable def spec_pzParse.sp : CSpec := mkSpec spec_pzParse.g T spec_pzParse.i
theorem spec_pzParse.ok : SpecOk Tryz.prog I 64 spec_pzParse.sp := mkSpec_ok hmix hI spec_pzParse.gok tok spec_pzParse.i Tryz.func64 (by kernel_rfl) (by kernel_rfl) (by kernel_rfl) (by kernel_rfl)
noncomputable def spec_pzParse.f (x0 : List UInt8) : Option ((Int × (List (Int × Int × Int))) × Bool) := run spec_pzParse.g T spec_pzParse.i [.v .str x0]
noncomputable def spec_pzParse.j0 (x0 : List UInt8) (x4 : List (List UInt8)) (x18 : Bool) (xb2_0 : Int) (xb2_1 : List (Int × Int × Int)) : Option ((Int × (List (Int × Int × Int))) × Bool) := runJ spec_pzParse.g T spec_pzParse.i [true, true, false, true] [(0, .val .str x0), (2, .ptr 2 0), (4, .own 9 .str x4), (18, .val .bool x18)] [(2, [⟨(.int .i64), xb2_0⟩, ⟨(.slice (.pair (.int .i64) (.pair (.int .i64) (.int .i64)))), xb2_1⟩])]
noncomputable def spec_pzParse.l0 (x0 : List UInt8) (x33 : List (List UInt8)) (x34 : Int) (x35 : Int) (xb2_0 : Int) (xb2_1 : List (Int × Int × Int)) (xb5_0 : Int) (xb5_1 : List (Int × Int × Int)) : Option ((Int × (List (Int × Int × Int))) × Bool) := runAt spec_pzParse.g T spec_pzParse.i [true, true, true, true, false, true, false, true, false] [(0, .val .str x0), (2, .ptr 2 0), (5, .ptr 5 0), (33, .own 9 .str x33), (34, .val (.int .i64) x34), (35, .val (.int .i64) x35)] [(2, [⟨(.int .i64), xb2_0⟩, ⟨(.slice (.pair (.int .i64) (.pair (.int .i64) (.int .i64)))), xb2_1⟩]), (5, [⟨(.int .i64), xb5_0⟩, ownV 46 (.pair (.int .i64) (.pair (.int .i64) (.int .i64))) xb5_1])]
theorem spec_pzParse.f.eq (x0 : List UInt8) : spec_pzParse.f x0 =
 (spec_l1Split.f x0 97).bind fun y1 =>
 if (decide ((x0.length : Int) > 60)) = true then
  spec_pzParse.j0 x0 y1 true 0 []
 else
  spec_pzParse.j0 x0 y1 (if false = true then true else (y1.length : Int) != 2) 0 [] := by kernel_rfl
theorem spec_pzParse.j0.eq (x0 : List UInt8) (x4 : List (List UInt8)) (x18 : Bool) (xb2_0 : Int) (xb2_1 : List (Int × Int × Int)) : spec_pzParse.j0 x0 x4 x18 xb2_0 xb2_1 =
 if x18 = true then
  some ((0, []), false)
 else
  (rdI x4 0).bind fun y1 =>
  (spec_l1Read.f y1).bind fun y2 =>
  (rdI x4 1).bind fun y3 =>
  if (decide ((y3.length : Int) > 0)) = true then
   (rdI x4 1).bind fun y6 =>
   (spec_l1Split.f y6 44).bind fun y7 =>
   spec_pzParse.l0 x0 y7 (y7.length : Int) 0 xb2_0 xb2_1 y2 []
  else
   (spec_pzGood.f (y2, [])).bind fun y17 =>
   if y17 = true then
    (spec_pzText.f (y2, [])).bind fun y18 =>
    some ((y2, []), (if true = true then (y18 == x0) else false))
   else
    some ((y2, []), false) := (runJ_eq _ _ _ _ _ _).trans (by kernel_rfl)
theorem spec_pzParse.l0.eq (x0 : List UInt8) (x33 : List (List UInt8)) (x34 : Int) (x35 : Int) (xb2_0 : Int) (xb2_1 : List (Int × Int × Int)) (xb5_0 : Int) (xb5_1 : List (Int × Int × Int)) : spec_pzParse.l0 x0 x33 x34 x35 xb2_0 xb2_1 xb5_0 xb5_1 =
 if (decide (x35 < x34)) = true then
  (rdI x33 x35).bind fun y2 =>
  (spec_l1Split.f y2 46).bind fun y3 =>
  if ((y3.length : Int) != 3) = true then
   some ((0, []), false)
  else
   (rdI y3 0).bind fun y5 =>
   (spec_l1Read.f y5).bind fun y6 =>
   (rdI y3 1).bind fun y7 =>
   (spec_l1Read.f y7).bind fun y8 =>
   (rdI y3 2).bind fun y9 =>
   (spec_l1Read.f y9).bind fun y10 =>
   (catI (appMax 24) xb5_1 [(y6, y8, y10)]).bind fun y11 =>
   spec_pzParse.l0 x0 x33 x34 (IntKind.i64.wrap (x35 + 1)) xb2_0 xb2_1 xb5_0 y11
 else
  (spec_pzGood.f (xb5_0, xb5_1)).bind fun y13 =>
  if y13 = true then
   (spec_pzText.f (xb5_0, xb5_1)).bind fun y14 =>
   some ((xb5_0, xb5_1), (if true = true then (y14 == x0) else false))
  else
   some ((xb5_0, xb5_1), false) := (runAt_loop _ _ _ _ _ _).trans (by kernel_rfl)
noncomputable def spec_ParsePuzzle.g : Gam := [(64, spec_pzParse.sp)]
theorem spec_ParsePuzzle.gok : GOkI Tryz.prog I spec_ParsePuzzle.g := (GOkI.nil _ _).cons spec_pzParse.ok
noncomputable def spec_ParsePuzzle.i : FI := ⟨Tryz.f36, body Tryz.f36, (.seq .nil (.seq .nil (.seq (.seq .nil (.cond (.seq .nil .nil) .nil)) (.seq .nil .nil)))), [], [], [.res (.cell 2 26) (.v (.pair (.int .i64) (.slice (.pair (.int .i64) (.pair (.int .i64) (.int .i64)))))), .res (.tmp 3) (.v .bool)]⟩
noncomputable def spec_ParsePuzzle.sp : CSpec := mkSpec spec_ParsePuzzle.g T spec_ParsePuzzle.i
theorem spec_ParsePuzzle.ok : SpecOk Tryz.prog I 36 spec_ParsePuzzle.sp := mkSpec_ok hmix hI spec_ParsePuzzle.gok tok spec_ParsePuzzle.i Tryz.func36 (by kernel_rfl) (by kernel_rfl) (by kernel_rfl) (by kernel_rfl)
noncomputable def spec_ParsePuzzle.f (x0 : List UInt8) : Option ((Int × (List (Int × Int × Int))) × Bool) := run spec_ParsePuzzle.g T spec_ParsePuzzle.i [.v .str x0]
theorem spec_ParsePuzzle.f.eq (x0 : List UInt8) : spec_ParsePuzzle.f x0 =
 (spec_pzParse.f x0).bind fun y1 =>
 if (!y1.2) = true then
  some ((0, []), false)
 else
  some ((y1.1.1, y1.1.2), true) := by kernel_rfl
noncomputable def laws_FnAgesGuessed.g : Gam := [(4, laws_big.sp), (5, spec_DrawSolutions.sp), (6, impl_Solutions.sp), (7, spec_Solutions.sp), (8, impl_CountSolutions.sp), (9, spec_CountSolutions.sp), (10, impl_FirstSolution.sp), (11, spec_FirstSolution.sp), (12, impl_SureAges.sp), (13, spec_SureAges.sp), (14, impl_IsSolved.sp), (15, spec_IsSolved.sp), (16, impl_NeedlessClues.sp), (17, spec_NeedlessClues.sp), (18, impl_LeftByClues.sp), (19, spec_LeftByClues.sp), (20, impl_BestClue.sp), (21, spec_BestClue.sp), (22, impl_PuzzleText.sp), (23, spec_PuzzleText.sp), (30, impl_DoesFit.sp), (29, impl_AreAges.sp), (31, impl_DropClue.sp), (32, laws_qHas.sp), (33, impl_ParsePuzzle.sp), (34, laws_qPuzzle.sp), (35, spec_DrawParsePuzzle.sp), (36, spec_ParsePuzzle.sp), (25, laws_qSame.sp), (28, laws_qOrdered.sp), (24, laws_qRows.sp), (26, impl_IsPuzzle.sp), (27, spec_IsPuzzle.sp)]
theorem laws_FnAgesGuessed.gok : GOkI Tryz.prog I laws_FnAgesGuessed.g := (((((((((((((((((((((((((((((((((GOkI.nil _ _).cons spec_IsPuzzle.ok).cons impl_IsPuzzle.ok).cons laws_qRows.ok).cons laws_qOrdered.ok).cons laws_qSame.ok).cons spec_ParsePuzzle.ok).cons spec_DrawParsePuzzle.ok).cons laws_qPuzzle.ok).cons impl_ParsePuzzle.ok).cons laws_qHas.ok).cons impl_DropClue.ok).cons impl_AreAges.ok).cons impl_DoesFit.ok).cons spec_PuzzleText.ok).cons impl_PuzzleText.ok).cons spec_BestClue.ok).cons impl_BestClue.ok).cons spec_LeftByClues.ok).cons impl_LeftByClues.ok).cons spec_NeedlessClues.ok).cons impl_NeedlessClues.ok).cons spec_IsSolved.ok).cons impl_IsSolved.ok).cons spec_SureAges.ok).cons impl_SureAges.ok).cons spec_FirstSolution.ok).cons impl_FirstSolution.ok).cons spec_CountSolutions.ok).cons impl_CountSolutions.ok).cons spec_Solutions.ok).cons impl_Solutions.ok).cons spec_DrawSolutions.ok).cons laws_big.ok
noncomputable def laws_FnAgesGuessed.i : FI := ⟨Tryz.f3, body Tryz.f3, (.seq .nil (.seq (.seq .nil (.cond (.seq .nil .nil) .nil)) (.seq .nil (.seq .nil (.seq .nil (.seq .nil (.seq .nil (.seq .nil (.seq .nil (.seq .nil (.cut [1, 5, 6, 7, 8, 9, 10, 11, 12, 13, 14, 15, 16, 17, 18, 19, 20, 21] [5] .nil (.seq .nil (.seq .nil (.seq .nil (.seq .nil (.seq .nil (.seq .nil (.seq .nil (.seq .nil (.seq .nil (.cut [1, 5, 6, 7, 8, 9, 10, 11, 12, 13, 14, 15, 16, 17, 18, 19, 20, 21, 22, 23, 24, 25, 26, 27, 28, 29, 30, 31, 32, 33, 34, 35, 36, 37, 38, 39, 40, 41] [5] .nil (.seq (.cut [1, 5, 6, 7, 10, 14, 15, 18, 22, 26, 30, 34, 38, 316] [5] (.rg [(25, [1, 5, 6, 7, 10, 11, 14, 15, 16, 18, 19, 20, 21, 22, 23, 24, 25, 26, 27, 28, 29, 30, 31, 32, 33, 34, 35, 36, 37, 38, 39, 40, 41, 185], [5]), (52, [1, 5, 6, 7, 10, 11, 14, 15, 18, 19, 22, 23, 26, 27, 28, 29, 30, 31, 32, 33, 34, 35, 36, 37, 38, 39, 40, 41, 212], [5]), (79, [1, 5, 6, 7, 10, 11, 14, 15, 18, 19, 22, 23, 26, 27, 30, 31, 34, 35, 36, 38, 39, 40, 41, 239], [5]), (107, [1, 5, 6, 7, 10, 11, 14, 15, 18, 19, 22, 23, 26, 27, 30, 31, 34, 35, 38, 39, 267], [5]), (136, [1, 5, 6, 7, 10, 14, 15, 18, 22, 26, 30, 31, 34, 35, 38, 39, 296], [5])]) (.cond (.seq .nil .nil) .nil)) (.cut [1] [] (.seq .nil (.cond (.seq .nil (.seq (.seq .nil (.blk (.loop [1, 5, 6, 10, 14, 15, 18, 22, 26, 30, 34, 38, 42, 43] [5] (.seq (.seq .nil (.cond .nil .nil)) (.seq (.blk .nil) .nil))))) (.seq (.cut [1, 5, 6, 10, 18, 26, 30, 34, 38, 396] [5] .nil (.cond (.seq .nil .nil) .nil)) (.seq (.seq .nil (.blk (.loop [1, 5, 6, 10, 18, 26, 30, 34, 38, 397, 398, 399] [5] (.seq .nil (.seq (.cond .nil .nil) (.seq (.blk (.seq .nil (.seq (.cut [1, 5, 6, 10, 18, 26, 30, 34, 38, 44, 45, 397, 398, 399, 413] [5] .nil (.cond (.seq .nil .nil) .nil)) (.seq (.seq .nil (.blk (.loop [1, 5, 6, 10, 18, 26, 30, 34, 38, 44, 45, 397, 398, 399, 414, 415, 416] [5] (.seq .nil (.seq (.cond .nil .nil) (.seq (.blk (.seq .nil (.seq .nil (.cond (.seq .nil .nil) .nil)))) .nil)))))) (.seq (.seq .nil (.cond .nil .nil)) (.seq .nil (.blk (.loop [1, 5, 6, 10, 18, 26, 30, 34, 38, 45, 397, 398, 399, 435, 436, 437] [5] (.seq .nil (.seq (.cond .nil .nil) (.seq (.blk (.seq .nil (.seq .nil (.seq .nil (.cond (.seq .nil .nil) .nil))))) .nil))))))))))) .nil)))))) (.seq (.seq .nil (.blk (.loop [1, 5, 10, 26, 30, 34, 38, 457, 458] [5] (.seq .nil (.seq (.cond .nil .nil) (.seq (.blk (.seq .nil (.seq .nil (.cut [1, 5, 10, 26, 30, 34, 38, 52, 54, 55, 56, 457, 458] [5] .nil (.seq .nil (.cond (.seq .nil .nil) .nil)))))) .nil)))))) (.seq .nil (.seq .nil (.cond (.seq .nil .nil) .nil)))))))) .nil)) (.seq .nil (.cut [59, 60, 61] [60] .nil (.seq .nil (.seq (.cut [59, 60, 61, 544] [60] .nil (.cond (.seq .nil .nil) .nil)) (.seq (.seq .nil (.cond (.seq .nil (.seq .nil .nil)) .nil)) (.seq .nil .nil))))))))))))))))))))))))))))), [], [], [.res (.tmp 4) (.v .bool)]⟩
noncomputable def laws_FnAgesGuessed.sp : CSpec := mkSpec laws_FnAgesGuessed.g T laws_FnAgesGuessed.i
theorem laws_FnAgesGuessed.ok : SpecOk Tryz.prog I 3 laws_FnAgesGuessed.sp := mkSpec_ok hmix hI laws_FnAgesGuessed.gok tok laws_FnAgesGuessed.i Tryz.func3 (by kernel_rfl) (by kernel_rfl) (by kernel_rfl) (by kernel_rfl)
noncomputable def laws_FnAgesGuessed.f (x0 : List Int) (x1 : List Int) : Option (Bool) := run laws_FnAgesGuessed.g T laws_FnAgesGuessed.i [.v (.slice (.int .u8)) x0, .v (.slice (.int .u8)) x1]
noncomputable def laws_FnAgesGuessed.j0 (x1 : List Int) (x6 : List (List Int)) (x7 : Bool) (x8 : List (List Int)) (x9 : Bool) (x10 : Int) (x11 : Bool) (x12 : Int) (x13 : Bool) (x14 : List Int) (x15 : Bool) (x16 : List Int) (x17 : Bool) (x18 : List Int) (x19 : Bool) (x20 : List Int) (x21 : Bool) (xb5_0 : Int) (xb5_1 : List (Int × Int × Int)) : Option (Bool) := runJ laws_FnAgesGuessed.g T laws_FnAgesGuessed.i [true, true, true, true, true, true, true, true, true, true, true] [(1, .val (.slice (.int .u8)) x1), (5, .ptr 5 0), (6, .own 33 (.slice (.int .i64)) x6), (7, .val .bool x7), (8, .own 33 (.slice (.int .i64)) x8), (9, .val .bool x9), (10, .val (.int .i64) x10), (11, .val .bool x11), (12, .val (.int .i64) x12), (13, .val .bool x13), (14, .val (.slice (.int .i64)) x14), (15, .val .bool x15), (16, .val (.slice (.int .i64)) x16), (17, .val .bool x17), (18, .own 3 (.int .i64) x18), (19, .val .bool x19), (20, .own 3 (.int .i64) x20), (21, .val .bool x21)] [(5, [⟨(.int .i64), xb5_0⟩, ⟨(.slice (.pair (.int .i64) (.pair (.int .i64) (.int .i64)))), xb5_1⟩])]
noncomputable def laws_FnAgesGuessed.j1 (x1 : List Int) (x6 : List (List Int)) (x7 : Bool) (x8 : List (List Int)) (x9 : Bool) (x10 : Int) (x11 : Bool) (x12 : Int) (x13 : Bool) (x14 : List Int) (x15 : Bool) (x16 : List Int) (x17 : Bool) (x18 : List Int) (x19 : Bool) (x20 : List Int) (x21 : Bool) (x22 : Bool) (x23 : Bool) (x24 : Bool) (x25 : Bool) (x26 : List Int) (x27 : Bool) (x28 : List Int) (x29 : Bool) (x30 : List Int) (x31 : Bool) (x32 : List Int) (x33 : Bool) (x34 : Int) (x35 : Bool) (x36 : Int) (x37 : Bool) (x38 : List UInt8) (x39 : Bool) (x40 : List UInt8) (x41 : Bool) (xb5_0 : Int) (xb5_1 : List (Int × Int × Int)) : Option (Bool) := runJ laws_FnAgesGuessed.g T laws_FnAgesGuessed.i [true, true, true, true, true, true, true, true, true, true, true, true, true, true, true, true, true, true, true, true, true] [(1, .val (.slice (.int .u8)) x1), (5, .ptr 5 0), (6, .own 33 (.slice (.int .i64)) x6), (7, .val .bool x7), (8, .own 33 (.slice (.int .i64)) x8), (9, .val .bool x9), (10, .val (.int .i64) x10), (11, .val .bool x11), (12, .val (.int .i64) x12), (13, .val .bool x13), (14, .val (.slice (.int .i64)) x14), (15, .val .bool x15), (16, .val (.slice (.int .i64)) x16), (17, .val .bool x17), (18, .own 3 (.int .i64) x18), (19, .val .bool x19), (20, .own 3 (.int .i64) x20), (21, .val .bool x21), (22, .val .bool x22), (23, .val .bool x23), (24, .val .bool x24), (25, .val .bool x25), (26, .own 3 (.int .i64) x26), (27, .val .bool x27), (28, .own 3 (.int .i64) x28), (29, .val .bool x29), (30, .own 3 (.int .i64) x30), (31, .val .bool x31), (32, .own 3 (.int .i64) x32), (33, .val .bool x33), (34, .val (.int .i64) x34), (35, .val .bool x35), (36, .val (.int .i64) x36), (37, .val .bool x37), (38, .val .str x38), (39, .val .bool x39), (40, .val .str x40), (41, .val .bool x41)] [(5, [⟨(.int .i64), xb5_0⟩, ⟨(.slice (.pair (.int .i64) (.pair (.int .i64) (.int .i64)))), xb5_1⟩])]
noncomputable def laws_FnAgesGuessed.m0 (x1 : List Int) (x6 : List (List Int)) (x7 : Bool) (x10 : Int) (x11 : Bool) (x14 : List Int) (x15 : Bool) (x16 : List Int) (x18 : List Int) (x19 : Bool) (x20 : List Int) (x21 : Bool) (x22 : Bool) (x23 : Bool) (x24 : Bool) (x25 : Bool) (x26 : List Int) (x27 : Bool) (x28 : List Int) (x29 : Bool) (x30 : List Int) (x31 : Bool) (x32 : List Int) (x33 : Bool) (x34 : Int) (x35 : Bool) (x36 : Int) (x37 : Bool) (x38 : List UInt8) (x39 : Bool) (x40 : List UInt8) (x41 : Bool) (xb5_0 : Int) (xb5_1 : List (Int × Int × Int)) : Option (Bool) := runM laws_FnAgesGuessed.g T laws_FnAgesGuessed.i [true, true, true, true, true, true, true, true, true, true, true, true, true, true, true, true, true, true, true, true, true, false, false] 25 [(1, .val (.slice (.int .u8)) x1), (5, .ptr 5 0), (6, .own 33 (.slice (.int .i64)) x6), (7, .val .bool x7), (10, .val (.int .i64) x10), (11, .val .bool x11), (14, .val (.slice (.int .i64)) x14), (15, .val .bool x15), (16, .val (.slice (.int .i64)) x16), (18, .own 3 (.int .i64) x18), (19, .val .bool x19), (20, .own 3 (.int .i64) x20), (21, .val .bool x21), (22, .val .bool x22), (23, .val .bool x23), (24, .val .bool x24), (25, .val .bool x25), (26, .own 3 (.int .i64) x26), (27, .val .bool x27), (28, .own 3 (.int .i64) x28), (29, .val .bool x29), (30, .own 3 (.int .i64) x30), (31, .val .bool x31), (32, .own 3 (.int .i64) x32), (33, .val .bool x33), (34, .val (.int .i64) x34), (35, .val .bool x35), (36, .val (.int .i64) x36), (37, .val .bool x37), (38, .val .str x38), (39, .val .bool x39), (40, .val .str x40), (41, .val .bool x41), (185, .val .bool true)] [(5, [⟨(.int .i64), xb5_0⟩, ⟨(.slice (.pair (.int .i64) (.pair (.int .i64) (.int .i64)))), xb5_1⟩])]
noncomputable def laws_FnAgesGuessed.m1 (x1 : List Int) (x6 : List (List Int)) (x7 : Bool) (x10 : Int) (x11 : Bool) (x14 : List Int) (x15 : Bool) (x18 : List Int) (x19 : Bool) (x22 : Bool) (x23 : Bool) (x26 : List Int) (x27 : Bool) (x28 : List Int) (x29 : Bool) (x30 : List Int) (x31 : Bool) (x32 : List Int) (x33 : Bool) (x34 : Int) (x35 : Bool) (x36 : Int) (x37 : Bool) (x38 : List UInt8) (x39 : Bool) (x40 : List UInt8) (x41 : Bool) (xb5_0 : Int) (xb5_1 : List (Int × Int × Int)) : Option (Bool) := runM laws_FnAgesGuessed.g T laws_FnAgesGuessed.i [true, true, true, true, true, true, true, true, true, true, true, true, true, true, true, true, true, true, true, true, true, false, false] 52 [(1, .val (.slice (.int .u8)) x1), (5, .ptr 5 0), (6, .own 33 (.slice (.int .i64)) x6), (7, .val .bool x7), (10, .val (.int .i64) x10), (11, .val .bool x11), (14, .val (.slice (.int .i64)) x14), (15, .val .bool x15), (18, .own 3 (.int .i64) x18), (19, .val .bool x19), (22, .val .bool x22), (23, .val .bool x23), (26, .own 3 (.int .i64) x26), (27, .val .bool x27), (28, .own 3 (.int .i64) x28), (29, .val .bool x29), (30, .own 3 (.int .i64) x30), (31, .val .bool x31), (32, .own 3 (.int .i64) x32), (33, .val .bool x33), (34, .val (.int .i64) x34), (35, .val .bool x35), (36, .val (.int .i64) x36), (37, .val .bool x37), (38, .val .str x38), (39, .val .bool x39), (40, .val .str x40), (41, .val .bool x41), (212, .val .bool true)] [(5, [⟨(.int .i64), xb5_0⟩, ⟨(.slice (.pair (.int .i64) (.pair (.int .i64) (.int .i64)))), xb5_1⟩])]
noncomputable def laws_FnAgesGuessed.m2 (x1 : List Int) (x6 : List (List Int)) (x7 : Bool) (x10 : Int) (x11 : Bool) (x14 : List Int) (x15 : Bool) (x18 : List Int) (x19 : Bool) (x22 : Bool) (x23 : Bool) (x26 : List Int) (x27 : Bool) (x30 : List Int) (x31 : Bool) (x34 : Int) (x35 : Bool) (x36 : Int) (x38 : List UInt8) (x39 : Bool) (x40 : List UInt8) (x41 : Bool) (xb5_0 : Int) (xb5_1 : List (Int × Int × Int)) : Option (Bool) := runM laws_FnAgesGuessed.g T laws_FnAgesGuessed.i [true, true, true, true, true, true, true, true, true, true, true, true, true, true, true, true, true, true, true, true, true, false, false] 79 [(1, .val (.slice (.int .u8)) x1), (5, .ptr 5 0), (6, .own 33 (.slice (.int .i64)) x6), (7, .val .bool x7), (10, .val (.int .i64) x10), (11, .val .bool x11), (14, .val (.slice (.int .i64)) x14), (15, .val .bool x15), (18, .own 3 (.int .i64) x18), (19, .val .bool x19), (22, .val .bool x22), (23, .val .bool x23), (26, .own 3 (.int .i64) x26), (27, .val .bool x27), (30, .own 3 (.int .i64) x30), (31, .val .bool x31), (34, .val (.int .i64) x34), (35, .val .bool x35), (36, .val (.int .i64) x36), (38, .val .str x38), (39, .val .bool x39), (40, .val .str x40), (41, .val .bool x41), (239, .val .bool true)] [(5, [⟨(.int .i64), xb5_0⟩, ⟨(.slice (.pair (.int .i64) (.pair (.int .i64) (.int .i64)))), xb5_1⟩])]
noncomputable def laws_FnAgesGuessed.m3 (x1 : List Int) (x6 : List (List Int)) (x7 : Bool) (x10 : Int) (x11 : Bool) (x14 : List Int) (x15 : Bool) (x18 : List Int) (x19 : Bool) (x22 : Bool) (x23 : Bool) (x26 : List Int) (x27 : Bool) (x30 : List Int) (x31 : Bool) (x34 : Int) (x35 : Bool) (x38 : List UInt8) (x39 : Bool) (xb5_0 : Int) (xb5_1 : List (Int × Int × Int)) : Option (Bool) := runM laws_FnAgesGuessed.g T laws_FnAgesGuessed.i [true, true, true, true, true, true, true, true, true, true, true, true, true, true, true, true, true, true, true, true, true, false, false] 107 [(1, .val (.slice (.int .u8)) x1), (5, .ptr 5 0), (6, .own 33 (.slice (.int .i64)) x6), (7, .val .bool x7), (10, .val (.int .i64) x10), (11, .val .bool x11), (14, .val (.slice (.int .i64)) x14), (15, .val .bool x15), (18, .own 3 (.int .i64) x18), (19, .val .bool x19), (22, .val .bool x22), (23, .val .bool x23), (26, .own 3 (.int .i64) x26), (27, .val .bool x27), (30, .own 3 (.int .i64) x30), (31, .val .bool x31), (34, .val (.int .i64) x34), (35, .val .bool x35), (38, .val .str x38), (39, .val .bool x39), (267, .val .bool true)] [(5, [⟨(.int .i64), xb5_0⟩, ⟨(.slice (.pair (.int .i64) (.pair (.int .i64) (.int .i64)))), xb5_1⟩])]
noncomputable def laws_FnAgesGuessed.m4 (x1 : List Int) (x6 : List (List Int)) (x7 : Bool) (x10 : Int) (x14 : List Int) (x15 : Bool) (x18 : List Int) (x22 : Bool) (x26 : List Int) (x30 : List Int) (x31 : Bool) (x34 : Int) (x35 : Bool) (x38 : List UInt8) (x39 : Bool) (xb5_0 : Int) (xb5_1 : List (Int × Int × Int)) : Option (Bool) := runM laws_FnAgesGuessed.g T laws_FnAgesGuessed.i [true, true, true, true, true, true, true, true, true, true, true, true, true, true, true, true, true, true, true, true, true, false, false] 136 [(1, .val (.slice (.int .u8)) x1), (5, .ptr 5 0), (6, .own 33 (.slice (.int .i64)) x6), (7, .val .bool x7), (10, .val (.int .i64) x10), (14, .val (.slice (.int .i64)) x14), (15, .val .bool x15), (18, .own 3 (.int .i64) x18), (22, .val .bool x22), (26, .own 3 (.int .i64) x26), (30, .own 3 (.int .i64) x30), (31, .val .bool x31), (34, .val (.int .i64) x34), (35, .val .bool x35), (38, .val .str x38), (39, .val .bool x39), (296, .val .bool true)] [(5, [⟨(.int .i64), xb5_0⟩, ⟨(.slice (.pair (.int .i64) (.pair (.int .i64) (.int .i64)))), xb5_1⟩])]
noncomputable def laws_FnAgesGuessed.j2 (x1 : List Int) (x6 : List (List Int)) (x7 : Bool) (x10 : Int) (x14 : List Int) (x15 : Bool) (x18 : List Int) (x22 : Bool) (x26 : List Int) (x30 : List Int) (x34 : Int) (x38 : List UInt8) (x316 : Bool) (xb5_0 : Int) (xb5_1 : List (Int × Int × Int)) : Option (Bool) := runJ laws_FnAgesGuessed.g T laws_FnAgesGuessed.i [true, true, true, true, true, true, true, true, true, true, true, true, true, true, true, true, true, true, true, true, true, false, true] [(1, .val (.slice (.int .u8)) x1), (5, .ptr 5 0), (6, .own 33 (.slice (.int .i64)) x6), (7, .val .bool x7), (10, .val (.int .i64) x10), (14, .val (.slice (.int .i64)) x14), (15, .val .bool x15), (18, .own 3 (.int .i64) x18), (22, .val .bool x22), (26, .own 3 (.int .i64) x26), (30, .own 3 (.int .i64) x30), (34, .val (.int .i64) x34), (38, .val .str x38), (316, .val .bool x316)] [(5, [⟨(.int .i64), xb5_0⟩, ⟨(.slice (.pair (.int .i64) (.pair (.int .i64) (.int .i64)))), xb5_1⟩])]
noncomputable def laws_FnAgesGuessed.l0 (x1 : List Int) (x6 : List (List Int)) (x10 : Int) (x14 : List Int) (x15 : Bool) (x18 : List Int) (x22 : Bool) (x26 : List Int) (x30 : List Int) (x34 : Int) (x38 : List UInt8) (x42 : Int) (x43 : Int) (xb5_0 : Int) (xb5_1 : List (Int × Int × Int)) : Option (Bool) := runAt laws_FnAgesGuessed.g T laws_FnAgesGuessed.i [true, true, true, true, true, true, true, true, true, true, true, true, true, true, true, true, true, true, true, true, true, true, false, true, false, true, false, true, false] [(1, .val (.slice (.int .u8)) x1), (5, .ptr 5 0), (6, .own 33 (.slice (.int .i64)) x6), (10, .val (.int .i64) x10), (14, .val (.slice (.int .i64)) x14), (15, .val .bool x15), (18, .own 3 (.int .i64) x18), (22, .val .bool x22), (26, .own 3 (.int .i64) x26), (30, .own 3 (.int .i64) x30), (34, .val (.int .i64) x34), (38, .val .str x38), (42, .val (.int .i64) x42), (43, .val (.int .i64) x43)] [(5, [⟨(.int .i64), xb5_0⟩, ⟨(.slice (.pair (.int .i64) (.pair (.int .i64) (.int .i64)))), xb5_1⟩])]
noncomputable def laws_FnAgesGuessed.j3 (x1 : List Int) (x6 : List (List Int)) (x10 : Int) (x18 : List Int) (x26 : List Int) (x30 : List Int) (x34 : Int) (x38 : List UInt8) (x396 : Bool) (xb5_0 : Int) (xb5_1 : List (Int × Int × Int)) : Option (Bool) := runJ laws_FnAgesGuessed.g T laws_FnAgesGuessed.i [true, true, true, true, true, true, true, true, true, true, true, true, true, true, true, true, true, true, true, true, true, true, false, true, false, true, true, false, true] [(1, .val (.slice (.int .u8)) x1), (5, .ptr 5 0), (6, .own 33 (.slice (.int .i64)) x6), (10, .val (.int .i64) x10), (18, .own 3 (.int .i64) x18), (26, .own 3 (.int .i64) x26), (30, .own 3 (.int .i64) x30), (34, .val (.int .i64) x34), (38, .val .str x38), (396, .val .bool x396)] [(5, [⟨(.int .i64), xb5_0⟩, ⟨(.slice (.pair (.int .i64) (.pair (.int .i64) (.int .i64)))), xb5_1⟩])]
noncomputable def laws_FnAgesGuessed.l1 (x1 : List Int) (x6 : List (List Int)) (x10 : Int) (x18 : List Int) (x26 : List Int) (x30 : List Int) (x34 : Int) (x38 : List UInt8) (x398 : Int) (x399 : Int) (xb5_0 : Int) (xb5_1 : List (Int × Int × Int)) : Option (Bool) := runAt laws_FnAgesGuessed.g T laws_FnAgesGuessed.i [true, true, true, true, true, true, true, true, true, true, true, true, true, true, true, true, true, true, true, true, true, true, false, true, false, true, true, true, false, true, false] [(1, .val (.slice (.int .u8)) x1), (5, .ptr 5 0), (6, .own 33 (.slice (.int .i64)) x6), (10, .val (.int .i64) x10), (18, .own 3 (.int .i64) x18), (26, .own 3 (.int .i64) x26), (30, .own 3 (.int .i64) x30), (34, .val (.int .i64) x34), (38, .val .str x38), (397, .alias 6), (398, .val (.int .i64) x398), (399, .val (.int .i64) x399)] [(5, [⟨(.int .i64), xb5_0⟩, ⟨(.slice (.pair (.int .i64) (.pair (.int .i64) (.int .i64)))), xb5_1⟩])]
noncomputable def laws_FnAgesGuessed.j4 (x1 : List Int) (x6 : List (List Int)) (x10 : Int) (x18 : List Int) (x26 : List Int) (x30 : List Int) (x34 : Int) (x38 : List UInt8) (x44 : Int) (x45 : List Int) (x398 : Int) (x399 : Int) (x413 : Bool) (xb5_0 : Int) (xb5_1 : List (Int × Int × Int)) : Option (Bool) := runJ laws_FnAgesGuessed.g T laws_FnAgesGuessed.i [true, true, true, true, true, true, true, true, true, true, true, true, true, true, true, true, true, true, true, true, true, true, false, true, false, true, true, true, false, true, false, false, true, true, false, false, true, false, true] [(1, .val (.slice (.int .u8)) x1), (5, .ptr 5 0), (6, .own 33 (.slice (.int .i64)) x6), (10, .val (.int .i64) x10), (18, .own 3 (.int .i64) x18), (26, .own 3 (.int .i64) x26), (30, .own 3 (.int .i64) x30), (34, .val (.int .i64) x34), (38, .val .str x38), (44, .val (.int .i64) x44), (45, .val (.slice (.int .i64)) x45), (397, .alias 6), (398, .val (.int .i64) x398), (399, .val (.int .i64) x399), (413, .val .bool x413)] [(5, [⟨(.int .i64), xb5_0⟩, ⟨(.slice (.pair (.int .i64) (.pair (.int .i64) (.int .i64)))), xb5_1⟩])]
noncomputable def laws_FnAgesGuessed.l2 (x1 : List Int) (x6 : List (List Int)) (x10 : Int) (x18 : List Int) (x26 : List Int) (x30 : List Int) (x34 : Int) (x38 : List UInt8) (x44 : Int) (x45 : List Int) (x398 : Int) (x399 : Int) (x415 : Int) (x416 : Int) (xb5_0 : Int) (xb5_1 : List (Int × Int × Int)) : Option (Bool) := runAt laws_FnAgesGuessed.g T laws_FnAgesGuessed.i [true, true, true, true, true, true, true, true, true, true, true, true, true, true, true, true, true, true, true, true, true, true, false, true, false, true, true, true, false, true, false, false, true, true, false, false, true, true, false, true, false] [(1, .val (.slice (.int .u8)) x1), (5, .ptr 5 0), (6, .own 33 (.slice (.int .i64)) x6), (10, .val (.int .i64) x10), (18, .own 3 (.int .i64) x18), (26, .own 3 (.int .i64) x26), (30, .own 3 (.int .i64) x30), (34, .val (.int .i64) x34), (38, .val .str x38), (44, .val (.int .i64) x44), (45, .val (.slice (.int .i64)) x45), (397, .alias 6), (398, .val (.int .i64) x398), (399, .val (.int .i64) x399), (414, .alias 18), (415, .val (.int .i64) x415), (416, .val (.int .i64) x416)] [(5, [⟨(.int .i64), xb5_0⟩, ⟨(.slice (.pair (.int .i64) (.pair (.int .i64) (.int .i64)))), xb5_1⟩])]
noncomputable def laws_FnAgesGuessed.l3 (x1 : List Int) (x6 : List (List Int)) (x10 : Int) (x18 : List Int) (x26 : List Int) (x30 : List Int) (x34 : Int) (x38 : List UInt8) (x45 : List Int) (x398 : Int) (x399 : Int) (x435 : List (Int × Int × Int)) (x436 : Int) (x437 : Int) (xb5_0 : Int) (xb5_1 : List (Int × Int × Int)) : Option (Bool) := runAt laws_FnAgesGuessed.g T laws_FnAgesGuessed.i [true, true, true, true, true, true, true, true, true, true, true, true, true, true, true, true, true, true, true, true, true, true, false, true, false, true, true, true, false, true, false, false, true, true, false, false, true, true, true, true, true, false] [(1, .val (.slice (.int .u8)) x1), (5, .ptr 5 0), (6, .own 33 (.slice (.int .i64)) x6), (10, .val (.int .i64) x10), (18, .own 3 (.int .i64) x18), (26, .own 3 (.int .i64) x26), (30, .own 3 (.int .i64) x30), (34, .val (.int .i64) x34), (38, .val .str x38), (45, .val (.slice (.int .i64)) x45), (397, .alias 6), (398, .val (.int .i64) x398), (399, .val (.int .i64) x399), (435, .val (.slice (.pair (.int .i64) (.pair (.int .i64) (.int .i64)))) x435), (436, .val (.int .i64) x436), (437, .val (.int .i64) x437)] [(5, [⟨(.int .i64), xb5_0⟩, ⟨(.slice (.pair (.int .i64) (.pair (.int .i64) (.int .i64)))), xb5_1⟩])]
noncomputable def laws_FnAgesGuessed.l4 (x1 : List Int) (x10 : Int) (x26 : List Int) (x30 : List Int) (x34 : Int) (x38 : List UInt8) (x457 : Int) (x458 : Int) (xb5_0 : Int) (xb5_1 : List (Int × Int × Int)) : Option (Bool) := runAt laws_FnAgesGuessed.g T laws_FnAgesGuessed.i [true, true, true, true, true, true, true, true, true, true, true, true, true, true, true, true, true, true, true, true, true, true, false, true, false, true, true, true, true, false, true, false] [(1, .val (.slice (.int .u8)) x1), (5, .ptr 5 0), (10, .val (.int .i64) x10), (26, .own 3 (.int .i64) x26), (30, .own 3 (.int .i64) x30), (34, .val (.int .i64) x34), (38, .val .str x38), (457, .val (.int .i64) x457), (458, .val (.int .i64) x458)] [(5, [⟨(.int .i64), xb5_0⟩, ⟨(.slice (.pair (.int .i64) (.pair (.int .i64) (.int .i64)))), xb5_1⟩])]
noncomputable def laws_FnAgesGuessed.j5 (x1 : List Int) (x10 : Int) (x26 : List Int) (x30 : List Int) (x34 : Int) (x38 : List UInt8) (x52 : Int) (x54 : Bool) (x55 : Int) (x56 : Bool) (x457 : Int) (x458 : Int) (xb5_0 : Int) (xb5_1 : List (Int × Int × Int)) : Option (Bool) := runJ laws_FnAgesGuessed.g T laws_FnAgesGuessed.i [true, true, true, true, true, true, true, true, true, true, true, true, true, true, true, true, true, true, true, true, true, true, false, true, false, true, true, true, true, false, true, false, false, true, true, false, false, true, true, true] [(1, .val (.slice (.int .u8)) x1), (5, .ptr 5 0), (10, .val (.int .i64) x10), (26, .own 3 (.int .i64) x26), (30, .own 3 (.int .i64) x30), (34, .val (.int .i64) x34), (38, .val .str x38), (52, .val (.int .i64) x52), (54, .val .bool x54), (55, .val (.int .i64) x55), (56, .val .bool x56), (457, .val (.int .i64) x457), (458, .val (.int .i64) x458)] [(5, [⟨(.int .i64), xb5_0⟩, ⟨(.slice (.pair (.int .i64) (.pair (.int .i64) (.int .i64)))), xb5_1⟩])]
noncomputable def laws_FnAgesGuessed.j6 (x1 : List Int) : Option (Bool) := runJ laws_FnAgesGuessed.g T laws_FnAgesGuessed.i [true, true, true, true, true, true, true, true, true, true, true, true, true, true, true, true, true, true, true, true, true, true, true] [(1, .val (.slice (.int .u8)) x1)] []
noncomputable def laws_FnAgesGuessed.j7 (x59 : List UInt8) (x61 : Bool) (xb60_0 : Int) (xb60_1 : List (Int × Int × Int)) : Option (Bool) := runJ laws_FnAgesGuessed.g T laws_FnAgesGuessed.i [true, true, true, true, true, true, true, true, true, true, true, true, true, true, true, true, true, true, true, true, true, true, true, true, true] [(59, .val .str x59), (60, .ptr 60 0), (61, .val .bool x61)] [(60, [⟨(.int .i64), xb60_0⟩, ⟨(.slice (.pair (.int .i64) (.pair (.int .i64) (.int .i64)))), xb60_1⟩])]
noncomputable def laws_FnAgesGuessed.j8 (x59 : List UInt8) (x61 : Bool) (x544 : Bool) (xb60_0 : Int) (xb60_1 : List (Int × Int × Int)) : Option (Bool) := runJ laws_FnAgesGuessed.g T laws_FnAgesGuessed.i [true, true, true, true, true, true, true, true, true, true, true, true, true, true, true, true, true, true, true, true, true, true, true, true, true, true, false, true] [(59, .val .str x59), (60, .ptr 60 0), (61, .val .bool x61), (544, .val .bool x544)] [(60, [⟨(.int .i64), xb60_0⟩, ⟨(.slice (.pair (.int .i64) (.pair (.int .i64) (.int .i64)))), xb60_1⟩])]
noncomputable def laws_FnAgesGuessed.m5 (x1 : List Int) (x6 : List (List Int)) (x7 : Bool) (x10 : Int) (x11 : Bool) (x14 : List Int) (x15 : Bool) (x16 : List Int) (x18 : List Int) (x19 : Bool) (x20 : List Int) (x21 : Bool) (x22 : Bool) (x23 : Bool) (x24 : Bool) (x25 : Bool) (x26 : List Int) (x27 : Bool) (x28 : List Int) (x29 : Bool) (x30 : List Int) (x31 : Bool) (x32 : List Int) (x33 : Bool) (x34 : Int) (x35 : Bool) (x36 : Int) (x37 : Bool) (x38 : List UInt8) (x39 : Bool) (x40 : List UInt8) (x41 : Bool) (xb5_0 : Int) (xb5_1 : List (Int × Int × Int)) : Option (Bool) := runM laws_FnAgesGuessed.g T laws_FnAgesGuessed.i [true, true, true, true, true, true, true, true, true, true, true, true, true, true, true, true, true, true, true, true, true, false, false] 25 [(1, .val (.slice (.int .u8)) x1), (5, .ptr 5 0), (6, .own 33 (.slice (.int .i64)) x6), (7, .val .bool x7), (10, .val (.int .i64) x10), (11, .val .bool x11), (14, .val (.slice (.int .i64)) x14), (15, .val .bool x15), (16, .val (.slice (.int .i64)) x16), (18, .own 3 (.int .i64) x18), (19, .val .bool x19), (20, .own 3 (.int .i64) x20), (21, .val .bool x21), (22, .val .bool x22), (23, .val .bool x23), (24, .val .bool x24), (25, .val .bool x25), (26, .own 3 (.int .i64) x26), (27, .val .bool x27), (28, .own 3 (.int .i64) x28), (29, .val .bool x29), (30, .own 3 (.int .i64) x30), (31, .val .bool x31), (32, .own 3 (.int .i64) x32), (33, .val .bool x33), (34, .val (.int .i64) x34), (35, .val .bool x35), (36, .val (.int .i64) x36), (37, .val .bool x37), (38, .val .str x38), (39, .val .bool x39), (40, .val .str x40), (41, .val .bool x41), (185, .val .bool false)] [(5, [⟨(.int .i64), xb5_0⟩, ⟨(.slice (.pair (.int .i64) (.pair (.int .i64) (.int .i64)))), xb5_1⟩])]
noncomputable def laws_FnAgesGuessed.m6 (x1 : List Int) (x6 : List (List Int)) (x7 : Bool) (x10 : Int) (x11 : Bool) (x14 : List Int) (x15 : Bool) (x18 : List Int) (x19 : Bool) (x22 : Bool) (x23 : Bool) (x26 : List Int) (x27 : Bool) (x28 : List Int) (x29 : Bool) (x30 : List Int) (x31 : Bool) (x32 : List Int) (x33 : Bool) (x34 : Int) (x35 : Bool) (x36 : Int) (x37 : Bool) (x38 : List UInt8) (x39 : Bool) (x40 : List UInt8) (x41 : Bool) (xb5_0 : Int) (xb5_1 : List (Int × Int × Int)) : Option (Bool) := runM laws_FnAgesGuessed.g T laws_FnAgesGuessed.i [true, true, true, true, true, true, true, true, true, true, true, true, true, true, true, true, true, true, true, true, true, false, false] 52 [(1, .val (.slice (.int .u8)) x1), (5, .ptr 5 0), (6, .own 33 (.slice (.int .i64)) x6), (7, .val .bool x7), (10, .val (.int .i64) x10), (11, .val .bool x11), (14, .val (.slice (.int .i64)) x14), (15, .val .bool x15), (18, .own 3 (.int .i64) x18), (19, .val .bool x19), (22, .val .bool x22), (23, .val .bool x23), (26, .own 3 (.int .i64) x26), (27, .val .bool x27), (28, .own 3 (.int .i64) x28), (29, .val .bool x29), (30, .own 3 (.int .i64) x30), (31, .val .bool x31), (32, .own 3 (.int .i64) x32), (33, .val .bool x33), (34, .val (.int .i64) x34), (35, .val .bool x35), (36, .val (.int .i64) x36), (37, .val .bool x37), (38, .val .str x38), (39, .val .bool x39), (40, .val .str x40), (41, .val .bool x41), (212, .val .bool false)] [(5, [⟨(.int .i64), xb5_0⟩, ⟨(.slice (.pair (.int .i64) (.pair (.int .i64) (.int .i64)))), xb5_1⟩])]
noncomputable def laws_FnAgesGuessed.m7 (x1 : List Int) (x6 : List (List Int)) (x7 : Bool) (x10 : Int) (x11 : Bool) (x14 : List Int) (x15 : Bool) (x18 : List Int) (x19 : Bool) (x22 : Bool) (x23 : Bool) (x26 : List Int) (x27 : Bool) (x30 : List Int) (x31 : Bool) (x34 : Int) (x35 : Bool) (x36 : Int) (x38 : List UInt8) (x39 : Bool) (x40 : List UInt8) (x41 : Bool) (xb5_0 : Int) (xb5_1 : List (Int × Int × Int)) : Option (Bool) := runM laws_FnAgesGuessed.g T laws_FnAgesGuessed.i [true, true, true, true, true, true, true, true, true, true, true, true, true, true, true, true, true, true, true, true, true, false, false] 79 [(1, .val (.slice (.int .u8)) x1), (5, .ptr 5 0), (6, .own 33 (.slice (.int .i64)) x6), (7, .val .bool x7), (10, .val (.int .i64) x10), (11, .val .bool x11), (14, .val (.slice (.int .i64)) x14), (15, .val .bool x15), (18, .own 3 (.int .i64) x18), (19, .val .bool x19), (22, .val .bool x22), (23, .val .bool x23), (26, .own 3 (.int .i64) x26), (27, .val .bool x27), (30, .own 3 (.int .i64) x30), (31, .val .bool x31), (34, .val (.int .i64) x34), (35, .val .bool x35), (36, .val (.int .i64) x36), (38, .val .str x38), (39, .val .bool x39), (40, .val .str x40), (41, .val .bool x41), (239, .val .bool false)] [(5, [⟨(.int .i64), xb5_0⟩, ⟨(.slice (.pair (.int .i64) (.pair (.int .i64) (.int .i64)))), xb5_1⟩])]
noncomputable def laws_FnAgesGuessed.m8 (x1 : List Int) (x6 : List (List Int)) (x7 : Bool) (x10 : Int) (x11 : Bool) (x14 : List Int) (x15 : Bool) (x18 : List Int) (x19 : Bool) (x22 : Bool) (x23 : Bool) (x26 : List Int) (x27 : Bool) (x30 : List Int) (x31 : Bool) (x34 : Int) (x35 : Bool) (x38 : List UInt8) (x39 : Bool) (xb5_0 : Int) (xb5_1 : List (Int × Int × Int)) : Option (Bool) := runM laws_FnAgesGuessed.g T laws_FnAgesGuessed.i [true, true, true, true, true, true, true, true, true, true, true, true, true, true, true, true, true, true, true, true, true, false, false] 107 [(1, .val (.slice (.int .u8)) x1), (5, .ptr 5 0), (6, .own 33 (.slice (.int .i64)) x6), (7, .val .bool x7), (10, .val (.int .i64) x10), (11, .val .bool x11), (14, .val (.slice (.int .i64)) x14), (15, .val .bool x15), (18, .own 3 (.int .i64) x18), (19, .val .bool x19), (22, .val .bool x22), (23, .val .bool x23), (26, .own 3 (.int .i64) x26), (27, .val .bool x27), (30, .own 3 (.int .i64) x30), (31, .val .bool x31), (34, .val (.int .i64) x34), (35, .val .bool x35), (38, .val .str x38), (39, .val .bool x39), (267, .val .bool false)] [(5, [⟨(.int .i64), xb5_0⟩, ⟨(.slice (.pair (.int .i64) (.pair (.int .i64) (.int .i64)))), xb5_1⟩])]
noncomputable def laws_FnAgesGuessed.m9 (x1 : List Int) (x6 : List (List Int)) (x7 : Bool) (x10 : Int) (x14 : List Int) (x15 : Bool) (x18 : List Int) (x22 : Bool) (x26 : List Int) (x30 : List Int) (x31 : Bool) (x34 : Int) (x35 : Bool) (x38 : List UInt8) (x39 : Bool) (xb5_0 : Int) (xb5_1 : List (Int × Int × Int)) : Option (Bool) := runM laws_FnAgesGuessed.g T laws_FnAgesGuessed.i [true, true, true, true, true, true, true, true, true, true, true, true, true, true, true, true, true, true, true, true, true, false, false] 136 [(1, .val (.slice (.int .u8)) x1), (5, .ptr 5 0), (6, .own 33 (.slice (.int .i64)) x6), (7, .val .bool x7), (10, .val (.int .i64) x10), (14, .val (.slice (.int .i64)) x14), (15, .val .bool x15), (18, .own 3 (.int .i64) x18), (22, .val .bool x22), (26, .own 3 (.int .i64) x26), (30, .own 3 (.int .i64) x30), (31, .val .bool x31), (34, .val (.int .i64) x34), (35, .val .bool x35), (38, .val .str x38), (39, .val .bool x39), (296, .val .bool false)] [(5, [⟨(.int .i64), xb5_0⟩, ⟨(.slice (.pair (.int .i64) (.pair (.int .i64) (.int .i64)))), xb5_1⟩])]
theorem laws_FnAgesGuessed.f.eq (x0 : List Int) (x1 : List Int) : laws_FnAgesGuessed.f x0 x1 =
 (laws_big.f x0 x1).bind fun y1 =>
 if y1 = true then
  some true
 else
  (spec_DrawSolutions.f x0).bind fun y2 =>
  (impl_Solutions.f (y2.1, y2.2)).bind fun y3 =>
  (spec_Solutions.f (y2.1, y2.2)).bind fun y4 =>
  (impl_CountSolutions.f (y2.1, y2.2)).bind fun y5 =>
  (spec_CountSolutions.f (y2.1, y2.2)).bind fun y6 =>
  (impl_FirstSolution.f (y2.1, y2.2)).bind fun y7 =>
  (spec_FirstSolution.f (y2.1, y2.2)).bind fun y8 =>
  (impl_SureAges.f (y2.1, y2.2)).bind fun y9 =>
  (spec_SureAges.f (y2.1, y2.2)).bind fun y10 =>
  laws_FnAgesGuessed.j0 x1 y3.1 y3.2 y4.1 y4.2 y5.1 y5.2 y6.1 y6.2 y7.1 y7.2 y8.1 y8.2 y9.1 y9.2 y10.1 y10.2 y2.1 y2.2 := by kernel_rfl
theorem laws_FnAgesGuessed.j0.eq (x1 : List Int) (x6 : List (List Int)) (x7 : Bool) (x8 : List (List Int)) (x9 : Bool) (x10 : Int) (x11 : Bool) (x12 : Int) (x13 : Bool) (x14 : List Int) (x15 : Bool) (x16 : List Int) (x17 : Bool) (x18 : List Int) (x19 : Bool) (x20 : List Int) (x21 : Bool) (xb5_0 : Int) (xb5_1 : List (Int × Int × Int)) : laws_FnAgesGuessed.j0 x1 x6 x7 x8 x9 x10 x11 x12 x13 x14 x15 x16 x17 x18 x19 x20 x21 xb5_0 xb5_1 =
 (impl_IsSolved.f (xb5_0, xb5_1)).bind fun y1 =>
 (spec_IsSolved.f (xb5_0, xb5_1)).bind fun y2 =>
 (impl_NeedlessClues.f (xb5_0, xb5_1)).bind fun y3 =>
 (spec_NeedlessClues.f (xb5_0, xb5_1)).bind fun y4 =>
 (impl_LeftByClues.f (xb5_0, xb5_1)).bind fun y5 =>
 (spec_LeftByClues.f (xb5_0, xb5_1)).bind fun y6 =>
 (impl_BestClue.f (xb5_0, xb5_1)).bind fun y7 =>
 (spec_BestClue.f (xb5_0, xb5_1)).bind fun y8 =>
 (impl_PuzzleText.f (xb5_0, xb5_1)).bind fun y9 =>
 (spec_PuzzleText.f (xb5_0, xb5_1)).bind fun y10 =>
 laws_FnAgesGuessed.j1 x1 x6 x7 x8 x9 x10 x11 x12 x13 x14 x15 x16 x17 x18 x19 x20 x21 y1.1 y1.2 y2.1 y2.2 y3.1 y3.2 y4.1 y4.2 y5.1 y5.2 y6.1 y6.2 y7.1 y7.2 y8.1 y8.2 y9.1 y9.2 y10.1 y10.2 xb5_0 xb5_1 := (runJ_eq _ _ _ _ _ _).trans (by kernel_rfl)
theorem laws_FnAgesGuessed.j1.eq (x1 : List Int) (x6 : List (List Int)) (x7 : Bool) (x8 : List (List Int)) (x9 : Bool) (x10 : Int) (x11 : Bool) (x12 : Int) (x13 : Bool) (x14 : List Int) (x15 : Bool) (x16 : List Int) (x17 : Bool) (x18 : List Int) (x19 : Bool) (x20 : List Int) (x21 : Bool) (x22 : Bool) (x23 : Bool) (x24 : Bool) (x25 : Bool) (x26 : List Int) (x27 : Bool) (x28 : List Int) (x29 : Bool) (x30 : List Int) (x31 : Bool) (x32 : List Int) (x33 : Bool) (x34 : Int) (x35 : Bool) (x36 : Int) (x37 : Bool) (x38 : List UInt8) (x39 : Bool) (x40 : List UInt8) (x41 : Bool) (xb5_0 : Int) (xb5_1 : List (Int × Int × Int)) : laws_FnAgesGuessed.j1 x1 x6 x7 x8 x9 x10 x11 x12 x13 x14 x15 x16 x17 x18 x19 x20 x21 x22 x23 x24 x25 x26 x27 x28 x29 x30 x31 x32 x33 x34 x35 x36 x37 x38 x39 x40 x41 xb5_0 xb5_1 =
 if (!(x7 == x9)) = true then
  laws_FnAgesGuessed.m0 x1 x6 x7 x10 x11 x14 x15 x16 x18 x19 x20 x21 x22 x23 x24 x25 x26 x27 x28 x29 x30 x31 x32 x33 x34 x35 x36 x37 x38 x39 x40 x41 xb5_0 xb5_1
 else
  (laws_qRows.f x6 x8).bind fun y90 =>
  if (if false = true then true else !y90) = true then
   laws_FnAgesGuessed.m0 x1 x6 x7 x10 x11 x14 x15 x16 x18 x19 x20 x21 x22 x23 x24 x25 x26 x27 x28 x29 x30 x31 x32 x33 x34 x35 x36 x37 x38 x39 x40 x41 xb5_0 xb5_1
  else
   if (if false = true then true else (!(x11 == x13))) = true then
    laws_FnAgesGuessed.m0 x1 x6 x7 x10 x11 x14 x15 x16 x18 x19 x20 x21 x22 x23 x24 x25 x26 x27 x28 x29 x30 x31 x32 x33 x34 x35 x36 x37 x38 x39 x40 x41 xb5_0 xb5_1
   else
    if (if false = true then true else (x10 != x12)) = true then
     laws_FnAgesGuessed.m0 x1 x6 x7 x10 x11 x14 x15 x16 x18 x19 x20 x21 x22 x23 x24 x25 x26 x27 x28 x29 x30 x31 x32 x33 x34 x35 x36 x37 x38 x39 x40 x41 xb5_0 xb5_1
    else
     if (if false = true then true else (!(x15 == x17))) = true then
      laws_FnAgesGuessed.m0 x1 x6 x7 x10 x11 x14 x15 x16 x18 x19 x20 x21 x22 x23 x24 x25 x26 x27 x28 x29 x30 x31 x32 x33 x34 x35 x36 x37 x38 x39 x40 x41 xb5_0 xb5_1
     else
      laws_FnAgesGuessed.m5 x1 x6 x7 x10 x11 x14 x15 x16 x18 x19 x20 x21 x22 x23 x24 x25 x26 x27 x28 x29 x30 x31 x32 x33 x34 x35 x36 x37 x38 x39 x40 x41 xb5_0 xb5_1 := (runJ_eq _ _ _ _ _ _).trans (by kernel_rfl)
theorem laws_FnAgesGuessed.m0.eq (x1 : List Int) (x6 : List (List Int)) (x7 : Bool) (x10 : Int) (x11 : Bool) (x14 : List Int) (x15 : Bool) (x16 : List Int) (x18 : List Int) (x19 : Bool) (x20 : List Int) (x21 : Bool) (x22 : Bool) (x23 : Bool) (x24 : Bool) (x25 : Bool) (x26 : List Int) (x27 : Bool) (x28 : List Int) (x29 : Bool) (x30 : List Int) (x31 : Bool) (x32 : List Int) (x33 : Bool) (x34 : Int) (x35 : Bool) (x36 : Int) (x37 : Bool) (x38 : List UInt8) (x39 : Bool) (x40 : List UInt8) (x41 : Bool) (xb5_0 : Int) (xb5_1 : List (Int × Int × Int)) : laws_FnAgesGuessed.m0 x1 x6 x7 x10 x11 x14 x15 x16 x18 x19 x20 x21 x22 x23 x24 x25 x26 x27 x28 x29 x30 x31 x32 x33 x34 x35 x36 x37 x38 x39 x40 x41 xb5_0 xb5_1 =
 laws_FnAgesGuessed.m1 x1 x6 x7 x10 x11 x14 x15 x18 x19 x22 x23 x26 x27 x28 x29 x30 x31 x32 x33 x34 x35 x36 x37 x38 x39 x40 x41 xb5_0 xb5_1 := (runM_eq _ _ _ _ _ _ _).trans (by kernel_rfl)
theorem laws_FnAgesGuessed.m1.eq (x1 : List Int) (x6 : List (List Int)) (x7 : Bool) (x10 : Int) (x11 : Bool) (x14 : List Int) (x15 : Bool) (x18 : List Int) (x19 : Bool) (x22 : Bool) (x23 : Bool) (x26 : List Int) (x27 : Bool) (x28 : List Int) (x29 : Bool) (x30 : List Int) (x31 : Bool) (x32 : List Int) (x33 : Bool) (x34 : Int) (x35 : Bool) (x36 : Int) (x37 : Bool) (x38 : List UInt8) (x39 : Bool) (x40 : List UInt8) (x41 : Bool) (xb5_0 : Int) (xb5_1 : List (Int × Int × Int)) : laws_FnAgesGuessed.m1 x1 x6 x7 x10 x11 x14 x15 x18 x19 x22 x23 x26 x27 x28 x29 x30 x31 x32 x33 x34 x35 x36 x37 x38 x39 x40 x41 xb5_0 xb5_1 =
 laws_FnAgesGuessed.m2 x1 x6 x7 x10 x11 x14 x15 x18 x19 x22 x23 x26 x27 x30 x31 x34 x35 x36 x38 x39 x40 x41 xb5_0 xb5_1 := (runM_eq _ _ _ _ _ _ _).trans (by kernel_rfl)
theorem laws_FnAgesGuessed.m2.eq (x1 : List Int) (x6 : List (List Int)) (x7 : Bool) (x10 : Int) (x11 : Bool) (x14 : List Int) (x15 : Bool) (x18 : List Int) (x19 : Bool) (x22 : Bool) (x23 : Bool) (x26 : List Int) (x27 : Bool) (x30 : List Int) (x31 : Bool) (x34 : Int) (x35 : Bool) (x36 : Int) (x38 : List UInt8) (x39 : Bool) (x40 : List UInt8) (x41 : Bool) (xb5_0 : Int) (xb5_1 : List (Int × Int × Int)) : laws_FnAgesGuessed.m2 x1 x6 x7 x10 x11 x14 x15 x18 x19 x22 x23 x26 x27 x30 x31 x34 x35 x36 x38 x39 x40 x41 xb5_0 xb5_1 =
 laws_FnAgesGuessed.m3 x1 x6 x7 x10 x11 x14 x15 x18 x19 x22 x23 x26 x27 x30 x31 x34 x35 x38 x39 xb5_0 xb5_1 := (runM_eq _ _ _ _ _ _ _).trans (by kernel_rfl)
theorem laws_FnAgesGuessed.m3.eq (x1 : List Int) (x6 : List (List Int)) (x7 : Bool) (x10 : Int) (x11 : Bool) (x14 : List Int) (x15 : Bool) (x18 : List Int) (x19 : Bool) (x22 : Bool) (x23 : Bool) (x26 : List Int) (x27 : Bool) (x30 : List Int) (x31 : Bool) (x34 : Int) (x35 : Bool) (x38 : List UInt8) (x39 : Bool) (xb5_0 : Int) (xb5_1 : List (Int × Int × Int)) : laws_FnAgesGuessed.m3 x1 x6 x7 x10 x11 x14 x15 x18 x19 x22 x23 x26 x27 x30 x31 x34 x35 x38 x39 xb5_0 xb5_1 =
 laws_FnAgesGuessed.m4 x1 x6 x7 x10 x14 x15 x18 x22 x26 x30 x31 x34 x35 x38 x39 xb5_0 xb5_1 := (runM_eq _ _ _ _ _ _ _).trans (by kernel_rfl)
theorem laws_FnAgesGuessed.m4.eq (x1 : List Int) (x6 : List (List Int)) (x7 : Bool) (x10 : Int) (x14 : List Int) (x15 : Bool) (x18 : List Int) (x22 : Bool) (x26 : List Int) (x30 : List Int) (x31 : Bool) (x34 : Int) (x35 : Bool) (x38 : List UInt8) (x39 : Bool) (xb5_0 : Int) (xb5_1 : List (Int × Int × Int)) : laws_FnAgesGuessed.m4 x1 x6 x7 x10 x14 x15 x18 x22 x26 x30 x31 x34 x35 x38 x39 xb5_0 xb5_1 =
 laws_FnAgesGuessed.j2 x1 x6 x7 x10 x14 x15 x18 x22 x26 x30 x34 x38 true xb5_0 xb5_1 := (runM_eq _ _ _ _ _ _ _).trans (by kernel_rfl)
theorem laws_FnAgesGuessed.j2.eq (x1 : List Int) (x6 : List (List Int)) (x7 : Bool) (x10 : Int) (x14 : List Int) (x15 : Bool) (x18 : List Int) (x22 : Bool) (x26 : List Int) (x30 : List Int) (x34 : Int) (x38 : List UInt8) (x316 : Bool) (xb5_0 : Int) (xb5_1 : List (Int × Int × Int)) : laws_FnAgesGuessed.j2 x1 x6 x7 x10 x14 x15 x18 x22 x26 x30 x34 x38 x316 xb5_0 xb5_1 =
 if x316 = true then
  some false
 else
  if x7 = true then
   laws_FnAgesGuessed.l0 x1 x6 x10 x14 x15 x18 x22 x26 x30 x34 x38 1 0 xb5_0 xb5_1
  else
   laws_FnAgesGuessed.j6 x1 := (runJ_eq _ _ _ _ _ _).trans (by kernel_rfl)
theorem laws_FnAgesGuessed.l0.eq (x1 : List Int) (x6 : List (List Int)) (x10 : Int) (x14 : List Int) (x15 : Bool) (x18 : List Int) (x22 : Bool) (x26 : List Int) (x30 : List Int) (x34 : Int) (x38 : List UInt8) (x42 : Int) (x43 : Int) (xb5_0 : Int) (xb5_1 : List (Int × Int × Int)) : laws_FnAgesGuessed.l0 x1 x6 x10 x14 x15 x18 x22 x26 x30 x34 x38 x42 x43 xb5_0 xb5_1 =
 if (decide (x43 < xb5_0)) = true then
  laws_FnAgesGuessed.l0 x1 x6 x10 x14 x15 x18 x22 x26 x30 x34 x38 (IntKind.i64.wrap (x42 * 12)) (IntKind.i64.wrap (x43 + 1)) xb5_0 xb5_1
 else
  if ((x6.length : Int) != x10) = true then
   laws_FnAgesGuessed.j3 x1 x6 x10 x18 x26 x30 x34 x38 true xb5_0 xb5_1
  else
   if x15 = true then
    (rdI x6 0).bind fun y20 =>
    (laws_qSame.f x14 y20).bind fun y21 =>
    if (if false = true then true else (if true = true then !y21 else false)) = true then
     laws_FnAgesGuessed.j3 x1 x6 x10 x18 x26 x30 x34 x38 true xb5_0 xb5_1
    else
     if (if false = true then true else (!(x22 == (x10 == 1)))) = true then
      laws_FnAgesGuessed.j3 x1 x6 x10 x18 x26 x30 x34 x38 true xb5_0 xb5_1
     else
      if (if false = true then true else ((x30.length : Int) != (IntKind.i64.wrap ((xb5_1.length : Int) + 1)))) = true then
       laws_FnAgesGuessed.j3 x1 x6 x10 x18 x26 x30 x34 x38 true xb5_0 xb5_1
      else
       (rdI x30 0).bind fun y31 =>
       if (if false = true then true else (y31 != x42)) = true then
        laws_FnAgesGuessed.j3 x1 x6 x10 x18 x26 x30 x34 x38 true xb5_0 xb5_1
       else
        (rdI x30 (xb5_1.length : Int)).bind fun y35 =>
        if (if false = true then true else (y35 != x10)) = true then
         laws_FnAgesGuessed.j3 x1 x6 x10 x18 x26 x30 x34 x38 true xb5_0 xb5_1
        else
         if x22 = true then
          (laws_qSame.f x18 x14).bind fun y38 =>
          if (if false = true then true else (if true = true then !y38 else false)) = true then
           laws_FnAgesGuessed.j3 x1 x6 x10 x18 x26 x30 x34 x38 true xb5_0 xb5_1
          else
           if x15 = true then
            if (if false = true then true else (if true = true then ((x18.length : Int) != xb5_0) else false)) = true then
             laws_FnAgesGuessed.j3 x1 x6 x10 x18 x26 x30 x34 x38 true xb5_0 xb5_1
            else
             (laws_qOrdered.f x6).bind fun y45 =>
             laws_FnAgesGuessed.j3 x1 x6 x10 x18 x26 x30 x34 x38 (if false = true then true else !y45) xb5_0 xb5_1
           else
            (laws_qOrdered.f x6).bind fun y47 =>
            laws_FnAgesGuessed.j3 x1 x6 x10 x18 x26 x30 x34 x38 (if false = true then true else !y47) xb5_0 xb5_1
         else
          if x15 = true then
           if (if false = true then true else (if true = true then ((x18.length : Int) != xb5_0) else false)) = true then
            laws_FnAgesGuessed.j3 x1 x6 x10 x18 x26 x30 x34 x38 true xb5_0 xb5_1
           else
            (laws_qOrdered.f x6).bind fun y53 =>
            laws_FnAgesGuessed.j3 x1 x6 x10 x18 x26 x30 x34 x38 (if false = true then true else !y53) xb5_0 xb5_1
          else
           (laws_qOrdered.f x6).bind fun y55 =>
           laws_FnAgesGuessed.j3 x1 x6 x10 x18 x26 x30 x34 x38 (if false = true then true else !y55) xb5_0 xb5_1
   else
    if (if false = true then true else (!(x22 == (x10 == 1)))) = true then
     laws_FnAgesGuessed.j3 x1 x6 x10 x18 x26 x30 x34 x38 true xb5_0 xb5_1
    else
     if (if false = true then true else ((x30.length : Int) != (IntKind.i64.wrap ((xb5_1.length : Int) + 1)))) = true then
      laws_FnAgesGuessed.j3 x1 x6 x10 x18 x26 x30 x34 x38 true xb5_0 xb5_1
     else
      (rdI x30 0).bind fun y64 =>
      if (if false = true then true else (y64 != x42)) = true then
       laws_FnAgesGuessed.j3 x1 x6 x10 x18 x26 x30 x34 x38 true xb5_0 xb5_1
      else
       (rdI x30 (xb5_1.length : Int)).bind fun y68 =>
       if (if false = true then true else (y68 != x10)) = true then
        laws_FnAgesGuessed.j3 x1 x6 x10 x18 x26 x30 x34 x38 true xb5_0 xb5_1
       else
        if x22 = true then
         (laws_qSame.f x18 x14).bind fun y71 =>
         if (if false = true then true else (if true = true then !y71 else false)) = true then
          laws_FnAgesGuessed.j3 x1 x6 x10 x18 x26 x30 x34 x38 true xb5_0 xb5_1
         else
          if x15 = true then
           if (if false = true then true else (if true = true then ((x18.length : Int) != xb5_0) else false)) = true then
            laws_FnAgesGuessed.j3 x1 x6 x10 x18 x26 x30 x34 x38 true xb5_0 xb5_1
           else
            (laws_qOrdered.f x6).bind fun y78 =>
            laws_FnAgesGuessed.j3 x1 x6 x10 x18 x26 x30 x34 x38 (if false = true then true else !y78) xb5_0 xb5_1
          else
           (laws_qOrdered.f x6).bind fun y80 =>
           laws_FnAgesGuessed.j3 x1 x6 x10 x18 x26 x30 x34 x38 (if false = true then true else !y80) xb5_0 xb5_1
        else
         if x15 = true then
          if (if false = true then true else (if true = true then ((x18.length : Int) != xb5_0) else false)) = true then
           laws_FnAgesGuessed.j3 x1 x6 x10 x18 x26 x30 x34 x38 true xb5_0 xb5_1
          else
           (laws_qOrdered.f x6).bind fun y86 =>
           laws_FnAgesGuessed.j3 x1 x6 x10 x18 x26 x30 x34 x38 (if false = true then true else !y86) xb5_0 xb5_1
         else
          (laws_qOrdered.f x6).bind fun y88 =>
          laws_FnAgesGuessed.j3 x1 x6 x10 x18 x26 x30 x34 x38 (if false = true then true else !y88) xb5_0 xb5_1 := (runAt_loop _ _ _ _ _ _).trans (by kernel_rfl)
theorem laws_FnAgesGuessed.j3.eq (x1 : List Int) (x6 : List (List Int)) (x10 : Int) (x18 : List Int) (x26 : List Int) (x30 : List Int) (x34 : Int) (x38 : List UInt8) (x396 : Bool) (xb5_0 : Int) (xb5_1 : List (Int × Int × Int)) : laws_FnAgesGuessed.j3 x1 x6 x10 x18 x26 x30 x34 x38 x396 xb5_0 xb5_1 =
 if x396 = true then
  some false
 else
  laws_FnAgesGuessed.l1 x1 x6 x10 x18 x26 x30 x34 x38 (x6.length : Int) 0 xb5_0 xb5_1 := (runJ_eq _ _ _ _ _ _).trans (by kernel_rfl)
theorem laws_FnAgesGuessed.l1.eq (x1 : List Int) (x6 : List (List Int)) (x10 : Int) (x18 : List Int) (x26 : List Int) (x30 : List Int) (x34 : Int) (x38 : List UInt8) (x398 : Int) (x399 : Int) (xb5_0 : Int) (xb5_1 : List (Int × Int × Int)) : laws_FnAgesGuessed.l1 x1 x6 x10 x18 x26 x30 x34 x38 x398 x399 xb5_0 xb5_1 =
 if (decide (x399 < x398)) = true then
  (rdI x6 x399).bind fun y2 =>
  if ((y2.length : Int) != xb5_0) = true then
   laws_FnAgesGuessed.j4 x1 x6 x10 x18 x26 x30 x34 x38 x399 y2 x398 x399 true xb5_0 xb5_1
  else
   (impl_AreAges.f y2).bind fun y11 =>
   laws_FnAgesGuessed.j4 x1 x6 x10 x18 x26 x30 x34 x38 x399 y2 x398 x399 (if false = true then true else !y11) xb5_0 xb5_1
 else
  laws_FnAgesGuessed.l4 x1 x10 x26 x30 x34 x38 (xb5_1.length : Int) 0 xb5_0 xb5_1 := (runAt_loop _ _ _ _ _ _).trans (by kernel_rfl)
theorem laws_FnAgesGuessed.j4.eq (x1 : List Int) (x6 : List (List Int)) (x10 : Int) (x18 : List Int) (x26 : List Int) (x30 : List Int) (x34 : Int) (x38 : List UInt8) (x44 : Int) (x45 : List Int) (x398 : Int) (x399 : Int) (x413 : Bool) (xb5_0 : Int) (xb5_1 : List (Int × Int × Int)) : laws_FnAgesGuessed.j4 x1 x6 x10 x18 x26 x30 x34 x38 x44 x45 x398 x399 x413 xb5_0 xb5_1 =
 if x413 = true then
  some false
 else
  laws_FnAgesGuessed.l2 x1 x6 x10 x18 x26 x30 x34 x38 x44 x45 x398 x399 (x18.length : Int) 0 xb5_0 xb5_1 := (runJ_eq _ _ _ _ _ _).trans (by kernel_rfl)
theorem laws_FnAgesGuessed.l2.eq (x1 : List Int) (x6 : List (List Int)) (x10 : Int) (x18 : List Int) (x26 : List Int) (x30 : List Int) (x34 : Int) (x38 : List UInt8) (x44 : Int) (x45 : List Int) (x398 : Int) (x399 : Int) (x415 : Int) (x416 : Int) (xb5_0 : Int) (xb5_1 : List (Int × Int × Int)) : laws_FnAgesGuessed.l2 x1 x6 x10 x18 x26 x30 x34 x38 x44 x45 x398 x399 x415 x416 xb5_0 xb5_1 =
 if (decide (x416 < x415)) = true then
  (rdI x18 x416).bind fun y2 =>
  if (decide (y2 ≥ 0)) = true then
   (rdI x45 x416).bind fun y4 =>
   if (if true = true then y4 != y2 else false) = true then
    some false
   else
    laws_FnAgesGuessed.l2 x1 x6 x10 x18 x26 x30 x34 x38 x44 x45 x398 x399 x415 (IntKind.i64.wrap (x416 + 1)) xb5_0 xb5_1
  else
   laws_FnAgesGuessed.l2 x1 x6 x10 x18 x26 x30 x34 x38 x44 x45 x398 x399 x415 (IntKind.i64.wrap (x416 + 1)) xb5_0 xb5_1
 else
  if (decide (x44 > 40)) = true then
   laws_FnAgesGuessed.l1 x1 x6 x10 x18 x26 x30 x34 x38 x398 (IntKind.i64.wrap (x399 + 1)) xb5_0 xb5_1
  else
   laws_FnAgesGuessed.l3 x1 x6 x10 x18 x26 x30 x34 x38 x45 x398 x399 xb5_1 (xb5_1.length : Int) 0 xb5_0 xb5_1 := (runAt_loop _ _ _ _ _ _).trans (by kernel_rfl)
theorem laws_FnAgesGuessed.l3.eq (x1 : List Int) (x6 : List (List Int)) (x10 : Int) (x18 : List Int) (x26 : List Int) (x30 : List Int) (x34 : Int) (x38 : List UInt8) (x45 : List Int) (x398 : Int) (x399 : Int) (x435 : List (Int × Int × Int)) (x436 : Int) (x437 : Int) (xb5_0 : Int) (xb5_1 : List (Int × Int × Int)) : laws_FnAgesGuessed.l3 x1 x6 x10 x18 x26 x30 x34 x38 x45 x398 x399 x435 x436 x437 xb5_0 xb5_1 =
 if (decide (x437 < x436)) = true then
  (rdI x435 x437).bind fun y2 =>
  (impl_DoesFit.f (y2.1, y2.2.1, y2.2.2) x45).bind fun y3 =>
  if (!y3.2) = true then
   some false
  else
   if (if false = true then true else !y3.1) = true then
    some false
   else
    laws_FnAgesGuessed.l3 x1 x6 x10 x18 x26 x30 x34 x38 x45 x398 x399 x435 x436 (IntKind.i64.wrap (x437 + 1)) xb5_0 xb5_1
 else
  laws_FnAgesGuessed.l1 x1 x6 x10 x18 x26 x30 x34 x38 x398 (IntKind.i64.wrap (x399 + 1)) xb5_0 xb5_1 := (runAt_loop _ _ _ _ _ _).trans (by kernel_rfl)
theorem laws_FnAgesGuessed.l4.eq (x1 : List Int) (x10 : Int) (x26 : List Int) (x30 : List Int) (x34 : Int) (x38 : List UInt8) (x457 : Int) (x458 : Int) (xb5_0 : Int) (xb5_1 : List (Int × Int × Int)) : laws_FnAgesGuessed.l4 x1 x10 x26 x30 x34 x38 x457 x458 xb5_0 xb5_1 =
 if (decide (x458 < x457)) = true then
  (impl_DropClue.f (xb5_0, xb5_1) x458).bind fun y2 =>
  (impl_CountSolutions.f (y2.1.1, y2.1.2)).bind fun y3 =>
  laws_FnAgesGuessed.j5 x1 x10 x26 x30 x34 x38 x458 y2.2 y3.1 y3.2 x457 x458 xb5_0 xb5_1
 else
  (impl_ParsePuzzle.f x38).bind fun y17 =>
  if (!y17.2) = true then
   some false
  else
   (laws_qPuzzle.f (y17.1.1, y17.1.2) (xb5_0, xb5_1)).bind fun y18 =>
   if (if false = true then true else !y18) = true then
    some false
   else
    laws_FnAgesGuessed.j6 x1 := (runAt_loop _ _ _ _ _ _).trans (by kernel_rfl)
theorem laws_FnAgesGuessed.j5.eq (x1 : List Int) (x10 : Int) (x26 : List Int) (x30 : List Int) (x34 : Int) (x38 : List UInt8) (x52 : Int) (x54 : Bool) (x55 : Int) (x56 : Bool) (x457 : Int) (x458 : Int) (xb5_0 : Int) (xb5_1 : List (Int × Int × Int)) : laws_FnAgesGuessed.j5 x1 x10 x26 x30 x34 x38 x52 x54 x55 x56 x457 x458 xb5_0 xb5_1 =
 if (!x54) = true then
  some false
 else
  if (if false = true then true else !x56) = true then
   some false
  else
   (laws_qHas.f x26 x52).bind fun y2 =>
   if (if false = true then true else (!(y2 == (x55 == x10)))) = true then
    some false
   else
    (rdI x30 (IntKind.i64.wrap (x52 + 1))).bind fun y7 =>
    (rdI x30 x52).bind fun y8 =>
    if (if false = true then true else (decide (y7 > y8))) = true then
     some false
    else
     if (if false = true then true else (decide (x34 < 0))) = true then
      some false
     else
      if (if false = true then true else (decide (x34 ≥ (xb5_1.length : Int)))) = true then
       some false
      else
       laws_FnAgesGuessed.l4 x1 x10 x26 x30 x34 x38 x457 (IntKind.i64.wrap (x458 + 1)) xb5_0 xb5_1 := (runJ_eq _ _ _ _ _ _).trans (by kernel_rfl)
theorem laws_FnAgesGuessed.j6.eq (x1 : List Int) : laws_FnAgesGuessed.j6 x1 =
 (spec_DrawParsePuzzle.f x1).bind fun y1 =>
 (impl_ParsePuzzle.f y1).bind fun y2 =>
 laws_FnAgesGuessed.j7 y1 y2.2 y2.1.1 y2.1.2 := (runJ_eq _ _ _ _ _ _).trans (by kernel_rfl)
theorem laws_FnAgesGuessed.j7.eq (x59 : List UInt8) (x61 : Bool) (xb60_0 : Int) (xb60_1 : List (Int × Int × Int)) : laws_FnAgesGuessed.j7 x59 x61 xb60_0 xb60_1 =
 (spec_ParsePuzzle.f x59).bind fun y1 =>
 if (!(x61 == y1.2)) = true then
  laws_FnAgesGuessed.j8 x59 x61 true xb60_0 xb60_1
 else
  (laws_qPuzzle.f (xb60_0, xb60_1) (y1.1.1, y1.1.2)).bind fun y4 =>
  laws_FnAgesGuessed.j8 x59 x61 (if false = true then true else !y4) xb60_0 xb60_1 := (runJ_eq _ _ _ _ _ _).trans (by kernel_rfl)
theorem laws_FnAgesGuessed.j8.eq (x59 : List UInt8) (x61 : Bool) (x544 : Bool) (xb60_0 : Int) (xb60_1 : List (Int × Int × Int)) : laws_FnAgesGuessed.j8 x59 x61 x544 xb60_0 xb60_1 =
 if x544 = true then
  some false
 else
  if x61 = true then
   (impl_PuzzleText.f (xb60_0, xb60_1)).bind fun y1 =>
   if y1.2 = true then
    some (if true = true then (y1.1 == x59) else false)
   else
    some false
  else
   some true := (runJ_eq _ _ _ _ _ _).trans (by kernel_rfl)
theorem laws_FnAgesGuessed.m5.eq (x1 : List Int) (x6 : List (List Int)) (x7 : Bool) (x10 : Int) (x11 : Bool) (x14 : List Int) (x15 : Bool) (x16 : List Int) (x18 : List Int) (x19 : Bool) (x20 : List Int) (x21 : Bool) (x22 : Bool) (x23 : Bool) (x24 : Bool) (x25 : Bool) (x26 : List Int) (x27 : Bool) (x28 : List Int) (x29 : Bool) (x30 : List Int) (x31 : Bool) (x32 : List Int) (x33 : Bool) (x34 : Int) (x35 : Bool) (x36 : Int) (x37 : Bool) (x38 : List UInt8) (x39 : Bool) (x40 : List UInt8) (x41 : Bool) (xb5_0 : Int) (xb5_1 : List (Int × Int × Int)) : laws_FnAgesGuessed.m5 x1 x6 x7 x10 x11 x14 x15 x16 x18 x19 x20 x21 x22 x23 x24 x25 x26 x27 x28 x29 x30 x31 x32 x33 x34 x35 x36 x37 x38 x39 x40 x41 xb5_0 xb5_1 =
 (laws_qSame.f x14 x16).bind fun y1 =>
 if (if false = true then true else !y1) = true then
  laws_FnAgesGuessed.m1 x1 x6 x7 x10 x11 x14 x15 x18 x19 x22 x23 x26 x27 x28 x29 x30 x31 x32 x33 x34 x35 x36 x37 x38 x39 x40 x41 xb5_0 xb5_1
 else
  if (if false = true then true else (!(x19 == x21))) = true then
   laws_FnAgesGuessed.m1 x1 x6 x7 x10 x11 x14 x15 x18 x19 x22 x23 x26 x27 x28 x29 x30 x31 x32 x33 x34 x35 x36 x37 x38 x39 x40 x41 xb5_0 xb5_1
  else
   (laws_qSame.f x18 x20).bind fun y5 =>
   if (if false = true then true else !y5) = true then
    laws_FnAgesGuessed.m1 x1 x6 x7 x10 x11 x14 x15 x18 x19 x22 x23 x26 x27 x28 x29 x30 x31 x32 x33 x34 x35 x36 x37 x38 x39 x40 x41 xb5_0 xb5_1
   else
    if (if false = true then true else (!(x23 == x25))) = true then
     laws_FnAgesGuessed.m1 x1 x6 x7 x10 x11 x14 x15 x18 x19 x22 x23 x26 x27 x28 x29 x30 x31 x32 x33 x34 x35 x36 x37 x38 x39 x40 x41 xb5_0 xb5_1
    else
     if (if false = true then true else (!(x22 == x24))) = true then
      laws_FnAgesGuessed.m1 x1 x6 x7 x10 x11 x14 x15 x18 x19 x22 x23 x26 x27 x28 x29 x30 x31 x32 x33 x34 x35 x36 x37 x38 x39 x40 x41 xb5_0 xb5_1
     else
      laws_FnAgesGuessed.m6 x1 x6 x7 x10 x11 x14 x15 x18 x19 x22 x23 x26 x27 x28 x29 x30 x31 x32 x33 x34 x35 x36 x37 x38 x39 x40 x41 xb5_0 xb5_1 := (runM_eq _ _ _ _ _ _ _).trans (by kernel_rfl)
theorem laws_FnAgesGuessed.m6.eq (x1 : List Int) (x6 : List (List Int)) (x7 : Bool) (x10 : Int) (x11 : Bool) (x14 : List Int) (x15 : Bool) (x18 : List Int) (x19 : Bool) (x22 : Bool) (x23 : Bool) (x26 : List Int) (x27 : Bool) (x28 : List Int) (x29 : Bool) (x30 : List Int) (x31 : Bool) (x32 : List Int) (x33 : Bool) (x34 : Int) (x35 : Bool) (x36 : Int) (x37 : Bool) (x38 : List UInt8) (x39 : Bool) (x40 : List UInt8) (x41 : Bool) (xb5_0 : Int) (xb5_1 : List (Int × Int × Int)) : laws_FnAgesGuessed.m6 x1 x6 x7 x10 x11 x14 x15 x18 x19 x22 x23 x26 x27 x28 x29 x30 x31 x32 x33 x34 x35 x36 x37 x38 x39 x40 x41 xb5_0 xb5_1 =
 if (if false = true then true else (!(x27 == x29))) = true then
  laws_FnAgesGuessed.m2 x1 x6 x7 x10 x11 x14 x15 x18 x19 x22 x23 x26 x27 x30 x31 x34 x35 x36 x38 x39 x40 x41 xb5_0 xb5_1
 else
  (laws_qSame.f x26 x28).bind fun y3 =>
  if (if false = true then true else !y3) = true then
   laws_FnAgesGuessed.m2 x1 x6 x7 x10 x11 x14 x15 x18 x19 x22 x23 x26 x27 x30 x31 x34 x35 x36 x38 x39 x40 x41 xb5_0 xb5_1
  else
   if (if false = true then true else (!(x31 == x33))) = true then
    laws_FnAgesGuessed.m2 x1 x6 x7 x10 x11 x14 x15 x18 x19 x22 x23 x26 x27 x30 x31 x34 x35 x36 x38 x39 x40 x41 xb5_0 xb5_1
   else
    (laws_qSame.f x30 x32).bind fun y7 =>
    if (if false = true then true else !y7) = true then
     laws_FnAgesGuessed.m2 x1 x6 x7 x10 x11 x14 x15 x18 x19 x22 x23 x26 x27 x30 x31 x34 x35 x36 x38 x39 x40 x41 xb5_0 xb5_1
    else
     if (if false = true then true else (!(x35 == x37))) = true then
      laws_FnAgesGuessed.m2 x1 x6 x7 x10 x11 x14 x15 x18 x19 x22 x23 x26 x27 x30 x31 x34 x35 x36 x38 x39 x40 x41 xb5_0 xb5_1
     else
      laws_FnAgesGuessed.m7 x1 x6 x7 x10 x11 x14 x15 x18 x19 x22 x23 x26 x27 x30 x31 x34 x35 x36 x38 x39 x40 x41 xb5_0 xb5_1 := (runM_eq _ _ _ _ _ _ _).trans (by kernel_rfl)
theorem laws_FnAgesGuessed.m7.eq (x1 : List Int) (x6 : List (List Int)) (x7 : Bool) (x10 : Int) (x11 : Bool) (x14 : List Int) (x15 : Bool) (x18 : List Int) (x19 : Bool) (x22 : Bool) (x23 : Bool) (x26 : List Int) (x27 : Bool) (x30 : List Int) (x31 : Bool) (x34 : Int) (x35 : Bool) (x36 : Int) (x38 : List UInt8) (x39 : Bool) (x40 : List UInt8) (x41 : Bool) (xb5_0 : Int) (xb5_1 : List (Int × Int × Int)) : laws_FnAgesGuessed.m7 x1 x6 x7 x10 x11 x14 x15 x18 x19 x22 x23 x26 x27 x30 x31 x34 x35 x36 x38 x39 x40 x41 xb5_0 xb5_1 =
 if (if false = true then true else (x34 != x36)) = true then
  laws_FnAgesGuessed.m3 x1 x6 x7 x10 x11 x14 x15 x18 x19 x22 x23 x26 x27 x30 x31 x34 x35 x38 x39 xb5_0 xb5_1
 else
  if (if false = true then true else (!(x39 == x41))) = true then
   laws_FnAgesGuessed.m3 x1 x6 x7 x10 x11 x14 x15 x18 x19 x22 x23 x26 x27 x30 x31 x34 x35 x38 x39 xb5_0 xb5_1
  else
   if (if false = true then true else (!(x38 == x40))) = true then
    laws_FnAgesGuessed.m3 x1 x6 x7 x10 x11 x14 x15 x18 x19 x22 x23 x26 x27 x30 x31 x34 x35 x38 x39 xb5_0 xb5_1
   else
    (impl_IsPuzzle.f (xb5_0, xb5_1)).bind fun y7 =>
    if (if false = true then true else (!(x7 == y7))) = true then
     laws_FnAgesGuessed.m3 x1 x6 x7 x10 x11 x14 x15 x18 x19 x22 x23 x26 x27 x30 x31 x34 x35 x38 x39 xb5_0 xb5_1
    else
     (impl_IsPuzzle.f (xb5_0, xb5_1)).bind fun y10 =>
     (spec_IsPuzzle.f (xb5_0, xb5_1)).bind fun y11 =>
     if (if false = true then true else (!(y10 == y11))) = true then
      laws_FnAgesGuessed.m3 x1 x6 x7 x10 x11 x14 x15 x18 x19 x22 x23 x26 x27 x30 x31 x34 x35 x38 x39 xb5_0 xb5_1
     else
      laws_FnAgesGuessed.m8 x1 x6 x7 x10 x11 x14 x15 x18 x19 x22 x23 x26 x27 x30 x31 x34 x35 x38 x39 xb5_0 xb5_1 := (runM_eq _ _ _ _ _ _ _).trans (by kernel_rfl)
theorem laws_FnAgesGuessed.m8.eq (x1 : List Int) (x6 : List (List Int)) (x7 : Bool) (x10 : Int) (x11 : Bool) (x14 : List Int) (x15 : Bool) (x18 : List Int) (x19 : Bool) (x22 : Bool) (x23 : Bool) (x26 : List Int) (x27 : Bool) (x30 : List Int) (x31 : Bool) (x34 : Int) (x35 : Bool) (x38 : List UInt8) (x39 : Bool) (xb5_0 : Int) (xb5_1 : List (Int × Int × Int)) : laws_FnAgesGuessed.m8 x1 x6 x7 x10 x11 x14 x15 x18 x19 x22 x23 x26 x27 x30 x31 x34 x35 x38 x39 xb5_0 xb5_1 =
 if (if false = true then true else (!(x11 == x7))) = true then
  laws_FnAgesGuessed.m4 x1 x6 x7 x10 x14 x15 x18 x22 x26 x30 x31 x34 x35 x38 x39 xb5_0 xb5_1
 else
  if x7 = true then
   if (if false = true then true else (!(x15 == (if true = true then (decide (x10 > 0)) else false)))) = true then
    laws_FnAgesGuessed.m4 x1 x6 x7 x10 x14 x15 x18 x22 x26 x30 x31 x34 x35 x38 x39 xb5_0 xb5_1
   else
    if (if false = true then true else (!(x19 == x15))) = true then
     laws_FnAgesGuessed.m4 x1 x6 x7 x10 x14 x15 x18 x22 x26 x30 x31 x34 x35 x38 x39 xb5_0 xb5_1
    else
     if (if false = true then true else (!(x23 == x7))) = true then
      laws_FnAgesGuessed.m4 x1 x6 x7 x10 x14 x15 x18 x22 x26 x30 x31 x34 x35 x38 x39 xb5_0 xb5_1
     else
      if (if false = true then true else (!(x27 == x7))) = true then
       laws_FnAgesGuessed.m4 x1 x6 x7 x10 x14 x15 x18 x22 x26 x30 x31 x34 x35 x38 x39 xb5_0 xb5_1
      else
       laws_FnAgesGuessed.m9 x1 x6 x7 x10 x14 x15 x18 x22 x26 x30 x31 x34 x35 x38 x39 xb5_0 xb5_1
  else
   if (if false = true then true else (!(x15 == false))) = true then
    laws_FnAgesGuessed.m4 x1 x6 x7 x10 x14 x15 x18 x22 x26 x30 x31 x34 x35 x38 x39 xb5_0 xb5_1
   else
    if (if false = true then true else (!(x19 == x15))) = true then
     laws_FnAgesGuessed.m4 x1 x6 x7 x10 x14 x15 x18 x22 x26 x30 x31 x34 x35 x38 x39 xb5_0 xb5_1
    else
     if (if false = true then true else (!(x23 == x7))) = true then
      laws_FnAgesGuessed.m4 x1 x6 x7 x10 x14 x15 x18 x22 x26 x30 x31 x34 x35 x38 x39 xb5_0 xb5_1
     else
      if (if false = true then true else (!(x27 == x7))) = true then
       laws_FnAgesGuessed.m4 x1 x6 x7 x10 x14 x15 x18 x22 x26 x30 x31 x34 x35 x38 x39 xb5_0 xb5_1
      else
       laws_FnAgesGuessed.m9 x1 x6 x7 x10 x14 x15 x18 x22 x26 x30 x31 x34 x35 x38 x39 xb5_0 xb5_1 := (runM_eq _ _ _ _ _ _ _).trans (by kernel_rfl)
theorem laws_FnAgesGuessed.m9.eq (x1 : List Int) (x6 : List (List Int)) (x7 : Bool) (x10 : Int) (x14 : List Int) (x15 : Bool) (x18 : List Int) (x22 : Bool) (x26 : List Int) (x30 : List Int) (x31 : Bool) (x34 : Int) (x35 : Bool) (x38 : List UInt8) (x39 : Bool) (xb5_0 : Int) (xb5_1 : List (Int × Int × Int)) : laws_FnAgesGuessed.m9 x1 x6 x7 x10 x14 x15 x18 x22 x26 x30 x31 x34 x35 x38 x39 xb5_0 xb5_1 =
 if (if false = true then true else (!(x31 == x7))) = true then
  laws_FnAgesGuessed.j2 x1 x6 x7 x10 x14 x15 x18 x22 x26 x30 x34 x38 true xb5_0 xb5_1
 else
  if x7 = true then
   if (if false = true then true else (!(x35 == (if true = true then (decide ((xb5_1.length : Int) > 0)) else false)))) = true then
    laws_FnAgesGuessed.j2 x1 x6 x7 x10 x14 x15 x18 x22 x26 x30 x34 x38 true xb5_0 xb5_1
   else
    laws_FnAgesGuessed.j2 x1 x6 x7 x10 x14 x15 x18 x22 x26 x30 x34 x38 (if false = true then true else (!(x39 == x7))) xb5_0 xb5_1
  else
   if (if false = true then true else (!(x35 == false))) = true then
    laws_FnAgesGuessed.j2 x1 x6 x7 x10 x14 x15 x18 x22 x26 x30 x34 x38 true xb5_0 xb5_1
   else
    laws_FnAgesGuessed.j2 x1 x6 x7 x10 x14 x15 x18 x22 x26 x30 x34 x38 (if false = true then true else (!(x39 == x7))) xb5_0 xb5_1 := (runM_eq _ _ _ _ _ _ _).trans (by kernel_rfl)
end Go.Proofs.YtecdijlfnnminaaGreatDoor.S
