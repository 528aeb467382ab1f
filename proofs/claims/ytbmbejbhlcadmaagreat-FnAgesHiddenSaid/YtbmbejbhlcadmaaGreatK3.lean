/- What the functions of this seat come to, over plain values. No condition. -/
import Derived.Test.YtbmbejbhlcadmaaGreatK2
namespace Go.Proofs.YtbmbejbhlcadmaaGreat.S
open Go Go.Proofs.YtbmbejbhlcadmaaGreat.Eng Go.Proofs
set_option maxRecDepth 1000000
set_option linter.unusedVariables false
noncomputable def impl_NeedlessClues.g : Gam := [(18, impl_Solutions.sp), (54, impl_without.sp), (55, impl_solutions.sp)]
theorem impl_NeedlessClues.gok : GOkI Tryz.prog I impl_NeedlessClues.g := (((GOkI.nil _ _).cons impl_solutions.ok).cons impl_without.ok).cons impl_Solutions.ok
noncomputable def impl_NeedlessClues.i : FI := ⟨Tryz.f19, body Tryz.f19, (.seq .nil (.seq .nil (.seq (.seq .nil (.cond (.seq .nil .nil) .nil)) (.seq .nil (.seq (.seq .nil (.blk (.loop [1, 4, 6, 18, 19] [1] (.seq .nil (.seq (.cond .nil .nil) (.seq (.blk (.seq .nil (.seq .nil (.cond .nil .nil)))) .nil)))))) (.seq .nil .nil)))))), [], [], [.res (.tmp 2) (.own 3 (.int .i64)), .res (.tmp 3) (.v .bool)]⟩
noncomputable def impl_NeedlessClues.sp : CSpec := mkSpec impl_NeedlessClues.g T impl_NeedlessClues.i
theorem impl_NeedlessClues.ok : SpecOk Tryz.prog I 19 impl_NeedlessClues.sp := mkSpec_ok hmix hI impl_NeedlessClues.gok tok impl_NeedlessClues.i Tryz.func19 (by kernel_rfl) (by kernel_rfl) (by kernel_rfl) (by kernel_rfl)
noncomputable def impl_NeedlessClues.f (x0 : Int × (List (Int × Int × Int))) : Option ((List Int) × Bool) := run impl_NeedlessClues.g T impl_NeedlessClues.i [.v (.pair (.int .i64) (.slice (.pair (.int .i64) (.pair (.int .i64) (.int .i64))))) x0]
noncomputable def impl_NeedlessClues.l0 (x4 : List (List Int)) (x6 : List Int) (x18 : Int) (x19 : Int) (xb1_0 : Int) (xb1_1 : List (Int × Int × Int)) : Option ((List Int) × Bool) := runAt impl_NeedlessClues.g T impl_NeedlessClues.i [true, true, true, true, false, true, false] [(1, .ptr 1 0), (4, .own 24 (.slice (.int .i64)) x4), (6, .own 3 (.int .i64) x6), (18, .val (.int .i64) x18), (19, .val (.int .i64) x19)] [(1, [⟨(.int .i64), xb1_0⟩, ⟨(.slice (.pair (.int .i64) (.pair (.int .i64) (.int .i64)))), xb1_1⟩])]
theorem impl_NeedlessClues.f.eq (x0 : Int × (List (Int × Int × Int))) : impl_NeedlessClues.f x0 =
  (impl_Solutions.f (x0.1, x0.2)).bind fun y1 =>
  if (!y1.2) = true then
    some ([], false)
  else
    impl_NeedlessClues.l0 y1.1 [] (x0.2.length : Int) 0 x0.1 x0.2 := by kernel_rfl
theorem impl_NeedlessClues.l0.eq (x4 : List (List Int)) (x6 : List Int) (x18 : Int) (x19 : Int) (xb1_0 : Int) (xb1_1 : List (Int × Int × Int)) : impl_NeedlessClues.l0 x4 x6 x18 x19 xb1_0 xb1_1 =
  if (decide (x19 < x18)) = true then
    (impl_without.f xb1_1 x19).bind fun y2 =>
    (impl_solutions.f xb1_0 y2).bind fun y3 =>
    if ((y3.length : Int) == (x4.length : Int)) = true then
      (catI (appMax 8) x6 [x19]).bind fun y6 =>
      impl_NeedlessClues.l0 x4 y6 x18 (IntKind.i64.wrap (x19 + 1)) xb1_0 xb1_1
    else
      impl_NeedlessClues.l0 x4 x6 x18 (IntKind.i64.wrap (x19 + 1)) xb1_0 xb1_1
  else
    some (x6, true) := (runAt_loop _ _ _ _ _ _).trans (by kernel_rfl)
noncomputable def laws_qSame.g : Gam := []
theorem laws_qSame.gok : GOkI Tryz.prog I laws_qSame.g := GOkI.nil _ _
noncomputable def laws_qSame.i : FI := ⟨Tryz.f61, body Tryz.f61, (.seq .nil (.seq (.seq .nil (.cond (.seq .nil .nil) .nil)) (.seq (.seq .nil (.blk (.loop [0, 1, 12, 13] [] (.seq .nil (.seq (.cond .nil .nil) (.seq (.blk (.seq .nil (.seq .nil (.cond (.seq .nil .nil) .nil)))) .nil)))))) (.seq .nil .nil)))), [], [], [.res (.tmp 4) (.v .bool)]⟩
noncomputable def laws_qSame.sp : CSpec := mkSpec laws_qSame.g T laws_qSame.i
theorem laws_qSame.ok : SpecOk Tryz.prog I 61 laws_qSame.sp := mkSpec_ok hmix hI laws_qSame.gok tok laws_qSame.i Tryz.func61 (by kernel_rfl) (by kernel_rfl) (by kernel_rfl) (by kernel_rfl)
noncomputable def laws_qSame.f (x0 : List Int) (x1 : List Int) : Option (Bool) := run laws_qSame.g T laws_qSame.i [.v (.slice (.int .i64)) x0, .v (.slice (.int .i64)) x1]
noncomputable def laws_qSame.l0 (x0 : List Int) (x1 : List Int) (x12 : Int) (x13 : Int) : Option (Bool) := runAt laws_qSame.g T laws_qSame.i [true, true, false, true, false] [(0, .val (.slice (.int .i64)) x0), (1, .val (.slice (.int .i64)) x1), (12, .val (.int .i64) x12), (13, .val (.int .i64) x13)] []
theorem laws_qSame.f.eq (x0 : List Int) (x1 : List Int) : laws_qSame.f x0 x1 =
  if ((x0.length : Int) != (x1.length : Int)) = true then
    some false
  else
    laws_qSame.l0 x0 x1 (x0.length : Int) 0 := by kernel_rfl
theorem laws_qSame.l0.eq (x0 : List Int) (x1 : List Int) (x12 : Int) (x13 : Int) : laws_qSame.l0 x0 x1 x12 x13 =
  if (decide (x13 < x12)) = true then
    (rdI x0 x13).bind fun y2 =>
    (rdI x1 x13).bind fun y3 =>
    if (y2 != y3) = true then
      some false
    else
      laws_qSame.l0 x0 x1 x12 (IntKind.i64.wrap (x13 + 1))
  else
    some true := (runAt_loop _ _ _ _ _ _).trans (by kernel_rfl)
noncomputable def laws_qRows.g : Gam := [(61, laws_qSame.sp)]
theorem laws_qRows.gok : GOkI Tryz.prog I laws_qRows.g := (GOkI.nil _ _).cons laws_qSame.ok
noncomputable def laws_qRows.i : FI := ⟨Tryz.f20, body Tryz.f20, (.seq .nil (.seq (.seq .nil (.cond (.seq .nil .nil) .nil)) (.seq (.seq .nil (.blk (.loop [0, 1, 12, 13] [] (.seq .nil (.seq (.cond .nil .nil) (.seq (.blk (.seq .nil (.seq .nil (.cond (.seq .nil .nil) .nil)))) .nil)))))) (.seq .nil .nil)))), [], [], [.res (.tmp 4) (.v .bool)]⟩
noncomputable def laws_qRows.sp : CSpec := mkSpec laws_qRows.g T laws_qRows.i
theorem laws_qRows.ok : SpecOk Tryz.prog I 20 laws_qRows.sp := mkSpec_ok hmix hI laws_qRows.gok tok laws_qRows.i Tryz.func20 (by kernel_rfl) (by kernel_rfl) (by kernel_rfl) (by kernel_rfl)
noncomputable def laws_qRows.f (x0 : List (List Int)) (x1 : List (List Int)) : Option (Bool) := run laws_qRows.g T laws_qRows.i [.v (.slice (.slice (.int .i64))) x0, .v (.slice (.slice (.int .i64))) x1]
noncomputable def laws_qRows.l0 (x0 : List (List Int)) (x1 : List (List Int)) (x12 : Int) (x13 : Int) : Option (Bool) := runAt laws_qRows.g T laws_qRows.i [true, true, false, true, false] [(0, .val (.slice (.slice (.int .i64))) x0), (1, .val (.slice (.slice (.int .i64))) x1), (12, .val (.int .i64) x12), (13, .val (.int .i64) x13)] []
theorem laws_qRows.f.eq (x0 : List (List Int)) (x1 : List (List Int)) : laws_qRows.f x0 x1 =
  if ((x0.length : Int) != (x1.length : Int)) = true then
    some false
  else
    laws_qRows.l0 x0 x1 (x0.length : Int) 0 := by kernel_rfl
theorem laws_qRows.l0.eq (x0 : List (List Int)) (x1 : List (List Int)) (x12 : Int) (x13 : Int) : laws_qRows.l0 x0 x1 x12 x13 =
  if (decide (x13 < x12)) = true then
    (rdI x0 x13).bind fun y2 =>
    (rdI x1 x13).bind fun y3 =>
    (laws_qSame.f y2 y3).bind fun y4 =>
    if (!y4) = true then
      some false
    else
      laws_qRows.l0 x0 x1 x12 (IntKind.i64.wrap (x13 + 1))
  else
    some true := (runAt_loop _ _ _ _ _ _).trans (by kernel_rfl)
noncomputable def spec_DrawAddClue.g : Gam := [(52, spec_l1Cur_puzzle.sp), (62, spec_l1Cur_clue.sp)]
theorem spec_DrawAddClue.gok : GOkI Tryz.prog I spec_DrawAddClue.g := ((GOkI.nil _ _).cons spec_l1Cur_clue.ok).cons spec_l1Cur_puzzle.ok
noncomputable def spec_DrawAddClue.i : FI := ⟨Tryz.f21, body Tryz.f21, (.seq .nil (.seq .nil (.seq .nil .nil))), [], [], [.res (.cell 2 29) (.v (.pair (.int .i64) (.slice (.pair (.int .i64) (.pair (.int .i64) (.int .i64)))))), .res (.cell 3 38) (.v (.pair (.int .i64) (.pair (.int .i64) (.int .i64))))]⟩
noncomputable def spec_DrawAddClue.sp : CSpec := mkSpec spec_DrawAddClue.g T spec_DrawAddClue.i
theorem spec_DrawAddClue.ok : SpecOk Tryz.prog I 21 spec_DrawAddClue.sp := mkSpec_ok hmix hI spec_DrawAddClue.gok tok spec_DrawAddClue.i Tryz.func21 (by kernel_rfl) (by kernel_rfl) (by kernel_rfl) (by kernel_rfl)
noncomputable def spec_DrawAddClue.f (x0 : List Int) : Option ((Int × (List (Int × Int × Int))) × (Int × Int × Int)) := run spec_DrawAddClue.g T spec_DrawAddClue.i [.v (.slice (.int .u8)) x0]
theorem spec_DrawAddClue.f.eq (x0 : List Int) : spec_DrawAddClue.f x0 =
  (spec_l1Cur_puzzle.f x0 0 0).bind fun y1 =>
  (spec_l1Cur_clue.f y1.2.1 y1.2.2.1 y1.2.2.2).bind fun y2 =>
  some ((y1.1.1, y1.1.2), y2.1.1, y2.1.2.1, y2.1.2.2) := by kernel_rfl
noncomputable def impl_AddClue.g : Gam := [(13, impl_IsPuzzle.sp), (30, impl_IsClue.sp), (53, slices_Clone_53.sp)]
theorem impl_AddClue.gok : GOkI Tryz.prog I impl_AddClue.g := (((GOkI.nil _ _).cons slices_Clone_53.ok).cons impl_IsClue.ok).cons impl_IsPuzzle.ok
noncomputable def impl_AddClue.i : FI := ⟨Tryz.f22, body Tryz.f22, (.seq .nil (.seq (.seq .nil (.cond (.seq .nil .nil) .nil)) (.seq .nil .nil))), [], [], [.res (.cell 4 29) (.v (.pair (.int .i64) (.slice (.pair (.int .i64) (.pair (.int .i64) (.int .i64)))))), .res (.tmp 5) (.v .bool)]⟩
noncomputable def impl_AddClue.sp : CSpec := mkSpec impl_AddClue.g T impl_AddClue.i
theorem impl_AddClue.ok : SpecOk Tryz.prog I 22 impl_AddClue.sp := mkSpec_ok hmix hI impl_AddClue.gok tok impl_AddClue.i Tryz.func22 (by kernel_rfl) (by kernel_rfl) (by kernel_rfl) (by kernel_rfl)
noncomputable def impl_AddClue.f (x0 : Int × (List (Int × Int × Int))) (x1 : Int × Int × Int) : Option ((Int × (List (Int × Int × Int))) × Bool) := run impl_AddClue.g T impl_AddClue.i [.v (.pair (.int .i64) (.slice (.pair (.int .i64) (.pair (.int .i64) (.int .i64))))) x0, .v (.pair (.int .i64) (.pair (.int .i64) (.int .i64))) x1]
theorem impl_AddClue.f.eq (x0 : Int × (List (Int × Int × Int))) (x1 : Int × Int × Int) : impl_AddClue.f x0 x1 =
  (impl_IsPuzzle.f (x0.1, x0.2)).bind fun y1 =>
  if (!y1) = true then
    some ((0, []), false)
  else
    (impl_IsClue.f x0.1 (x1.1, x1.2.1, x1.2.2)).bind fun y2 =>
    if (if false = true then true else !y2) = true then
      some ((0, []), false)
    else
      if (if false = true then true else (x0.2.length : Int) == 6) = true then
        some ((0, []), false)
      else
        (slices_Clone_53.f x0.2).bind fun y6 =>
        (catI (appMax 24) y6 [(x1.1, x1.2.1, x1.2.2)]).bind fun y7 =>
        some ((x0.1, y7), true) := by kernel_rfl
noncomputable def spec_AddClue.g : Gam := [(56, spec_pzGood.sp), (63, spec_pzClue.sp)]
theorem spec_AddClue.gok : GOkI Tryz.prog I spec_AddClue.g := ((GOkI.nil _ _).cons spec_pzClue.ok).cons spec_pzGood.ok
noncomputable def spec_AddClue.i : FI := ⟨Tryz.f23, body Tryz.f23, (.seq .nil (.seq (.seq .nil (.cond (.seq .nil .nil) .nil)) (.seq .nil .nil))), [], [], [.res (.cell 4 29) (.v (.pair (.int .i64) (.slice (.pair (.int .i64) (.pair (.int .i64) (.int .i64)))))), .res (.tmp 5) (.v .bool)]⟩
noncomputable def spec_AddClue.sp : CSpec := mkSpec spec_AddClue.g T spec_AddClue.i
theorem spec_AddClue.ok : SpecOk Tryz.prog I 23 spec_AddClue.sp := mkSpec_ok hmix hI spec_AddClue.gok tok spec_AddClue.i Tryz.func23 (by kernel_rfl) (by kernel_rfl) (by kernel_rfl) (by kernel_rfl)
noncomputable def spec_AddClue.f (x0 : Int × (List (Int × Int × Int))) (x1 : Int × Int × Int) : Option ((Int × (List (Int × Int × Int))) × Bool) := run spec_AddClue.g T spec_AddClue.i [.v (.pair (.int .i64) (.slice (.pair (.int .i64) (.pair (.int .i64) (.int .i64))))) x0, .v (.pair (.int .i64) (.pair (.int .i64) (.int .i64))) x1]
theorem spec_AddClue.f.eq (x0 : Int × (List (Int × Int × Int))) (x1 : Int × Int × Int) : spec_AddClue.f x0 x1 =
  (spec_pzGood.f (x0.1, x0.2)).bind fun y1 =>
  if (!y1) = true then
    some ((0, []), false)
  else
    (spec_pzClue.f x0.1 (x1.1, x1.2.1, x1.2.2)).bind fun y2 =>
    if (if false = true then true else !y2) = true then
      some ((0, []), false)
    else
      if (if false = true then true else (x0.2.length : Int) == 6) = true then
        some ((0, []), false)
      else
        (catI (appMax 24) [] x0.2).bind fun y6 =>
        (catI (appMax 24) y6 [(x1.1, x1.2.1, x1.2.2)]).bind fun y7 =>
        some ((x0.1, y7), true) := by kernel_rfl
noncomputable def spec_DrawDropClue.g : Gam := [(52, spec_l1Cur_puzzle.sp), (35, spec_l1Cur_pick.sp)]
theorem spec_DrawDropClue.gok : GOkI Tryz.prog I spec_DrawDropClue.g := ((GOkI.nil _ _).cons spec_l1Cur_pick.ok).cons spec_l1Cur_puzzle.ok
noncomputable def spec_DrawDropClue.i : FI := ⟨Tryz.f24, body Tryz.f24, (.seq .nil (.seq .nil (.seq .nil .nil))), [], [], [.res (.cell 2 29) (.v (.pair (.int .i64) (.slice (.pair (.int .i64) (.pair (.int .i64) (.int .i64)))))), .res (.tmp 3) (.v (.int .i64))]⟩
noncomputable def spec_DrawDropClue.sp : CSpec := mkSpec spec_DrawDropClue.g T spec_DrawDropClue.i
theorem spec_DrawDropClue.ok : SpecOk Tryz.prog I 24 spec_DrawDropClue.sp := mkSpec_ok hmix hI spec_DrawDropClue.gok tok spec_DrawDropClue.i Tryz.func24 (by kernel_rfl) (by kernel_rfl) (by kernel_rfl) (by kernel_rfl)
noncomputable def spec_DrawDropClue.f (x0 : List Int) : Option ((Int × (List (Int × Int × Int))) × Int) := run spec_DrawDropClue.g T spec_DrawDropClue.i [.v (.slice (.int .u8)) x0]
theorem spec_DrawDropClue.f.eq (x0 : List Int) : spec_DrawDropClue.f x0 =
  (spec_l1Cur_puzzle.f x0 0 0).bind fun y1 =>
  (spec_l1Cur_pick.f y1.2.1 y1.2.2.1 y1.2.2.2 6).bind fun y2 =>
  (spec_l1Cur_pick.f y2.2.1 y2.2.2.1 y2.2.2.2 9).bind fun y3 =>
  some ((y1.1.1, y1.1.2), (IntKind.i64.wrap (y2.1 - (IntKind.i64.wrap (y3.1.tdiv 8))))) := by kernel_rfl
noncomputable def impl_DropClue.g : Gam := [(13, impl_IsPuzzle.sp), (37, impl_between.sp), (54, impl_without.sp)]
theorem impl_DropClue.gok : GOkI Tryz.prog I impl_DropClue.g := (((GOkI.nil _ _).cons impl_without.ok).cons impl_between.ok).cons impl_IsPuzzle.ok
noncomputable def impl_DropClue.i : FI := ⟨Tryz.f25, body Tryz.f25, (.seq .nil (.seq (.seq .nil (.cond (.seq .nil .nil) .nil)) (.seq .nil .nil))), [], [], [.res (.cell 4 29) (.v (.pair (.int .i64) (.slice (.pair (.int .i64) (.pair (.int .i64) (.int .i64)))))), .res (.tmp 5) (.v .bool)]⟩
noncomputable def impl_DropClue.sp : CSpec := mkSpec impl_DropClue.g T impl_DropClue.i
theorem impl_DropClue.ok : SpecOk Tryz.prog I 25 impl_DropClue.sp := mkSpec_ok hmix hI impl_DropClue.gok tok impl_DropClue.i Tryz.func25 (by kernel_rfl) (by kernel_rfl) (by kernel_rfl) (by kernel_rfl)
noncomputable def impl_DropClue.f (x0 : Int × (List (Int × Int × Int))) (x1 : Int) : Option ((Int × (List (Int × Int × Int))) × Bool) := run impl_DropClue.g T impl_DropClue.i [.v (.pair (.int .i64) (.slice (.pair (.int .i64) (.pair (.int .i64) (.int .i64))))) x0, .v (.int .i64) x1]
theorem impl_DropClue.f.eq (x0 : Int × (List (Int × Int × Int))) (x1 : Int) : impl_DropClue.f x0 x1 =
  (impl_IsPuzzle.f (x0.1, x0.2)).bind fun y1 =>
  if (!y1) = true then
    some ((0, []), false)
  else
    (impl_between.f x1 0 (IntKind.i64.wrap ((x0.2.length : Int) - 1))).bind fun y4 =>
    if (if false = true then true else !y4) = true then
      some ((0, []), false)
    else
      (impl_without.f x0.2 x1).bind fun y6 =>
      some ((x0.1, y6), true) := by kernel_rfl
noncomputable def spec_DropClue.g : Gam := [(56, spec_pzGood.sp), (41, spec_l1In.sp), (58, spec_pzWithout.sp)]
theorem spec_DropClue.gok : GOkI Tryz.prog I spec_DropClue.g := (((GOkI.nil _ _).cons spec_pzWithout.ok).cons spec_l1In.ok).cons spec_pzGood.ok
noncomputable def spec_DropClue.i : FI := ⟨Tryz.f26, body Tryz.f26, (.seq .nil (.seq (.seq .nil (.cond (.seq .nil .nil) .nil)) (.seq .nil .nil))), [], [], [.res (.cell 4 29) (.v (.pair (.int .i64) (.slice (.pair (.int .i64) (.pair (.int .i64) (.int .i64)))))), .res (.tmp 5) (.v .bool)]⟩
noncomputable def spec_DropClue.sp : CSpec := mkSpec spec_DropClue.g T spec_DropClue.i
theorem spec_DropClue.ok : SpecOk Tryz.prog I 26 spec_DropClue.sp := mkSpec_ok hmix hI spec_DropClue.gok tok spec_DropClue.i Tryz.func26 (by kernel_rfl) (by kernel_rfl) (by kernel_rfl) (by kernel_rfl)
noncomputable def spec_DropClue.f (x0 : Int × (List (Int × Int × Int))) (x1 : Int) : Option ((Int × (List (Int × Int × Int))) × Bool) := run spec_DropClue.g T spec_DropClue.i [.v (.pair (.int .i64) (.slice (.pair (.int .i64) (.pair (.int .i64) (.int .i64))))) x0, .v (.int .i64) x1]
theorem spec_DropClue.f.eq (x0 : Int × (List (Int × Int × Int))) (x1 : Int) : spec_DropClue.f x0 x1 =
  (spec_pzGood.f (x0.1, x0.2)).bind fun y1 =>
  if (!y1) = true then
    some ((0, []), false)
  else
    (spec_l1In.f x1 0 (IntKind.i64.wrap ((x0.2.length : Int) - 1))).bind fun y4 =>
    if (if false = true then true else !y4) = true then
      some ((0, []), false)
    else
      (spec_pzWithout.f x0.2 x1).bind fun y6 =>
      some ((x0.1, y6), true) := by kernel_rfl
noncomputable def spec_DrawDoesFit.g : Gam := [(33, spec_l1Cur_hidden.sp), (35, spec_l1Cur_pick.sp), (7, spec_MakePuzzle.sp), (32, spec_l1Cur_one.sp), (34, spec_l1Cur_among.sp), (62, spec_l1Cur_clue.sp)]
theorem spec_DrawDoesFit.gok : GOkI Tryz.prog I spec_DrawDoesFit.g := ((((((GOkI.nil _ _).cons spec_l1Cur_clue.ok).cons spec_l1Cur_among.ok).cons spec_l1Cur_one.ok).cons spec_MakePuzzle.ok).cons spec_l1Cur_pick.ok).cons spec_l1Cur_hidden.ok
noncomputable def spec_DrawDoesFit.i : FI := ⟨Tryz.f27, body Tryz.f27, (.seq .nil (.seq .nil (.seq .nil (.seq (.seq .nil (.cut [2, 4, 5, 6, 24] [2, 6, 10] .nil (.cond (.seq .nil .nil) .nil))) (.seq (.seq .nil (.cond .nil .nil)) (.seq .nil .nil)))))), [], [], [.res (.cell 2 38) (.v (.pair (.int .i64) (.pair (.int .i64) (.int .i64)))), .res (.tmp 3) (.own 3 (.int .i64))]⟩
noncomputable def spec_DrawDoesFit.sp : CSpec := mkSpec spec_DrawDoesFit.g T spec_DrawDoesFit.i
theorem spec_DrawDoesFit.ok : SpecOk Tryz.prog I 27 spec_DrawDoesFit.sp := mkSpec_ok hmix hI spec_DrawDoesFit.gok tok spec_DrawDoesFit.i Tryz.func27 (by kernel_rfl) (by kernel_rfl) (by kernel_rfl) (by kernel_rfl)
noncomputable def spec_DrawDoesFit.f (x0 : List Int) : Option ((Int × Int × Int) × (List Int)) := run spec_DrawDoesFit.g T spec_DrawDoesFit.i [.v (.slice (.int .u8)) x0]
noncomputable def spec_DrawDoesFit.j0 (x5 : List Int) (x24 : Bool) (xb2_0 : Int) (xb2_1 : Int) (xb2_2 : Int) (xb6_0 : Int) (xb6_1 : List (Int × Int × Int)) (xb10_0 : List Int) (xb10_1 : Int) (xb10_2 : Int) : Option ((Int × Int × Int) × (List Int)) := runJ spec_DrawDoesFit.g T spec_DrawDoesFit.i [true, true, true, false, true, true] [(2, .ptr 2 0), (4, .ptr 10 0), (5, .own 3 (.int .i64) x5), (6, .ptr 6 0), (24, .val .bool x24)] [(2, [⟨(.int .i64), xb2_0⟩, ⟨(.int .i64), xb2_1⟩, ⟨(.int .i64), xb2_2⟩]), (6, [⟨(.int .i64), xb6_0⟩, ⟨(.slice (.pair (.int .i64) (.pair (.int .i64) (.int .i64)))), xb6_1⟩]), (10, [⟨(.slice (.int .u8)), xb10_0⟩, ⟨(.int .i64), xb10_1⟩, ⟨(.int .u64), xb10_2⟩])]
theorem spec_DrawDoesFit.f.eq (x0 : List Int) : spec_DrawDoesFit.f x0 =
  (spec_l1Cur_hidden.f x0 0 0).bind fun y1 =>
  (spec_l1Cur_pick.f y1.2.1 y1.2.2.1 y1.2.2.2 10000).bind fun y2 =>
  (spec_MakePuzzle.f y1.1 1 y2.1).bind fun y3 =>
  if y3.2 = true then
    (spec_l1Cur_one.f y2.2.1 y2.2.2.1 y2.2.2.2 3).bind fun y4 =>
    spec_DrawDoesFit.j0 y1.1 (if true = true then y4.1 else false) 0 0 0 y3.1.1 y3.1.2 y4.2.1 y4.2.2.1 y4.2.2.2
  else
    spec_DrawDoesFit.j0 y1.1 false 0 0 0 y3.1.1 y3.1.2 y2.2.1 y2.2.2.1 y2.2.2.2 := by kernel_rfl
theorem spec_DrawDoesFit.j0.eq (x5 : List Int) (x24 : Bool) (xb2_0 : Int) (xb2_1 : Int) (xb2_2 : Int) (xb6_0 : Int) (xb6_1 : List (Int × Int × Int)) (xb10_0 : List Int) (xb10_1 : Int) (xb10_2 : Int) : spec_DrawDoesFit.j0 x5 x24 xb2_0 xb2_1 xb2_2 xb6_0 xb6_1 xb10_0 xb10_1 xb10_2 =
  if x24 = true then
    (rdI xb6_1 0).bind fun y1 =>
    some ((y1.1, y1.2.1, y1.2.2), x5)
  else
    (spec_l1Cur_one.f xb10_0 xb10_1 xb10_2 10).bind fun y2 =>
    if y2.1 = true then
      (spec_l1Cur_among.f y2.2.1 y2.2.2.1 y2.2.2.2 [(-1), 0, 12, 13]).bind fun y3 =>
      (catI (appMax 8) x5 [y3.1]).bind fun y4 =>
      (spec_l1Cur_clue.f y3.2.1 y3.2.2.1 y3.2.2.2).bind fun y5 =>
      some ((y5.1.1, y5.1.2.1, y5.1.2.2), y4)
    else
      (spec_l1Cur_clue.f y2.2.1 y2.2.2.1 y2.2.2.2).bind fun y6 =>
      some ((y6.1.1, y6.1.2.1, y6.1.2.2), x5) := (runJ_eq _ _ _ _ _ _).trans (by kernel_rfl)
noncomputable def spec_DoesFit.g : Gam := [(40, spec_pzHidden.sp), (63, spec_pzClue.sp), (64, spec_pzFits.sp)]
theorem spec_DoesFit.gok : GOkI Tryz.prog I spec_DoesFit.g := (((GOkI.nil _ _).cons spec_pzFits.ok).cons spec_pzClue.ok).cons spec_pzHidden.ok
noncomputable def spec_DoesFit.i : FI := ⟨Tryz.f28, body Tryz.f28, (.seq .nil (.seq (.seq .nil (.cond (.seq .nil .nil) .nil)) (.seq .nil .nil))), [], [], [.res (.tmp 4) (.v .bool), .res (.tmp 5) (.v .bool)]⟩
noncomputable def spec_DoesFit.sp : CSpec := mkSpec spec_DoesFit.g T spec_DoesFit.i
theorem spec_DoesFit.ok : SpecOk Tryz.prog I 28 spec_DoesFit.sp := mkSpec_ok hmix hI spec_DoesFit.gok tok spec_DoesFit.i Tryz.func28 (by kernel_rfl) (by kernel_rfl) (by kernel_rfl) (by kernel_rfl)
noncomputable def spec_DoesFit.f (x0 : Int × Int × Int) (x1 : List Int) : Option (Bool × Bool) := run spec_DoesFit.g T spec_DoesFit.i [.v (.pair (.int .i64) (.pair (.int .i64) (.int .i64))) x0, .v (.slice (.int .i64)) x1]
theorem spec_DoesFit.f.eq (x0 : Int × Int × Int) (x1 : List Int) : spec_DoesFit.f x0 x1 =
  (spec_pzHidden.f x1).bind fun y1 =>
  if (!y1) = true then
    some (false, false)
  else
    (spec_pzClue.f (x1.length : Int) (x0.1, x0.2.1, x0.2.2)).bind fun y3 =>
    if (if false = true then true else !y3) = true then
      some (false, false)
    else
      (spec_pzFits.f (x0.1, x0.2.1, x0.2.2) x1).bind fun y5 =>
      some (y5, true) := by kernel_rfl
noncomputable def spec_DrawIsClue.g : Gam := [(32, spec_l1Cur_one.sp), (34, spec_l1Cur_among.sp), (35, spec_l1Cur_pick.sp), (62, spec_l1Cur_clue.sp)]
theorem spec_DrawIsClue.gok : GOkI Tryz.prog I spec_DrawIsClue.g := ((((GOkI.nil _ _).cons spec_l1Cur_clue.ok).cons spec_l1Cur_pick.ok).cons spec_l1Cur_among.ok).cons spec_l1Cur_one.ok
noncomputable def spec_DrawIsClue.i : FI := ⟨Tryz.f29, body Tryz.f29, (.seq .nil (.seq .nil (.seq (.seq .nil (.cond (.seq .nil .nil) .nil)) (.seq .nil .nil)))), [], [], [.res (.tmp 2) (.v (.int .i64)), .res (.cell 3 38) (.v (.pair (.int .i64) (.pair (.int .i64) (.int .i64))))]⟩
noncomputable def spec_DrawIsClue.sp : CSpec := mkSpec spec_DrawIsClue.g T spec_DrawIsClue.i
theorem spec_DrawIsClue.ok : SpecOk Tryz.prog I 29 spec_DrawIsClue.sp := mkSpec_ok hmix hI spec_DrawIsClue.gok tok spec_DrawIsClue.i Tryz.func29 (by kernel_rfl) (by kernel_rfl) (by kernel_rfl) (by kernel_rfl)
noncomputable def spec_DrawIsClue.f (x0 : List Int) : Option (Int × (Int × Int × Int)) := run spec_DrawIsClue.g T spec_DrawIsClue.i [.v (.slice (.int .u8)) x0]
theorem spec_DrawIsClue.f.eq (x0 : List Int) : spec_DrawIsClue.f x0 =
  (spec_l1Cur_one.f x0 0 0 3).bind fun y1 =>
  if y1.1 = true then
    (spec_l1Cur_among.f y1.2.1 y1.2.2.1 y1.2.2.2 [(-1), 0, 1, 2, 3, 4, (-9223372036854775808)]).bind fun y2 =>
    (spec_l1Cur_pick.f y2.2.1 y2.2.2.1 y2.2.2.2 8).bind fun y3 =>
    (spec_l1Cur_pick.f y3.2.1 y3.2.2.1 y3.2.2.2 9).bind fun y4 =>
    (spec_l1Cur_among.f y4.2.1 y4.2.2.1 y4.2.2.2 [(-1), 0, 0, 1, 2, 3, 9, 10, 4611686018427387904]).bind fun y7 =>
    (spec_l1Cur_among.f y7.2.1 y7.2.2.1 y7.2.2.2 [(-1), 0, 1, 2, 9, 10, 2000, 2001]).bind fun y8 =>
    some (y2.1, (IntKind.i64.wrap (y3.1 - (IntKind.i64.wrap (y4.1.tdiv 8)))), y7.1, y8.1)
  else
    (spec_l1Cur_pick.f y1.2.1 y1.2.2.1 y1.2.2.2 2).bind fun y9 =>
    (spec_l1Cur_clue.f y9.2.1 y9.2.2.1 y9.2.2.2).bind fun y11 =>
    some ((IntKind.i64.wrap (2 + y9.1)), y11.1.1, y11.1.2.1, y11.1.2.2) := by kernel_rfl
noncomputable def spec_IsClue.g : Gam := [(65, spec_pzPeople.sp), (63, spec_pzClue.sp)]
theorem spec_IsClue.gok : GOkI Tryz.prog I spec_IsClue.g := ((GOkI.nil _ _).cons spec_pzClue.ok).cons spec_pzPeople.ok
noncomputable def spec_IsClue.i : FI := ⟨Tryz.f31, body Tryz.f31, (.seq .nil (.seq .nil .nil)), [], [], [.res (.tmp 4) (.v .bool)]⟩
noncomputable def spec_IsClue.sp : CSpec := mkSpec spec_IsClue.g T spec_IsClue.i
theorem spec_IsClue.ok : SpecOk Tryz.prog I 31 spec_IsClue.sp := mkSpec_ok hmix hI spec_IsClue.gok tok spec_IsClue.i Tryz.func31 (by kernel_rfl) (by kernel_rfl) (by kernel_rfl) (by kernel_rfl)
noncomputable def spec_IsClue.f (x0 : Int) (x1 : Int × Int × Int) : Option (Bool) := run spec_IsClue.g T spec_IsClue.i [.v (.int .i64) x0, .v (.pair (.int .i64) (.pair (.int .i64) (.int .i64))) x1]
theorem spec_IsClue.f.eq (x0 : Int) (x1 : Int × Int × Int) : spec_IsClue.f x0 x1 =
  (spec_pzPeople.f x0).bind fun y1 =>
  if y1 = true then
    (spec_pzClue.f x0 (x1.1, x1.2.1, x1.2.2)).bind fun y2 =>
    some (if true = true then y2 else false)
  else
    some false := by kernel_rfl
noncomputable def laws_FnAgesHidden.g : Gam := [(4, laws_big.sp), (5, spec_DrawMakePuzzle.sp), (6, impl_MakePuzzle.sp), (7, spec_MakePuzzle.sp), (9, impl_SumIn.sp), (10, impl_DoesFit.sp), (11, impl_ProductIn.sp), (12, impl_CountOfKind.sp), (13, impl_IsPuzzle.sp), (14, spec_DrawHarderPuzzle.sp), (15, impl_HarderPuzzle.sp), (16, spec_HarderPuzzle.sp), (17, impl_IsSolved.sp), (18, impl_Solutions.sp), (19, impl_NeedlessClues.sp), (20, laws_qRows.sp), (21, spec_DrawAddClue.sp), (22, impl_AddClue.sp), (23, spec_AddClue.sp), (24, spec_DrawDropClue.sp), (25, impl_DropClue.sp), (26, spec_DropClue.sp), (27, spec_DrawDoesFit.sp), (28, spec_DoesFit.sp), (29, spec_DrawIsClue.sp), (8, laws_qPuzzle.sp), (30, impl_IsClue.sp), (31, spec_IsClue.sp)]
theorem laws_FnAgesHidden.gok : GOkI Tryz.prog I laws_FnAgesHidden.g := ((((((((((((((((((((((((((((GOkI.nil _ _).cons spec_IsClue.ok).cons impl_IsClue.ok).cons laws_qPuzzle.ok).cons spec_DrawIsClue.ok).cons spec_DoesFit.ok).cons spec_DrawDoesFit.ok).cons spec_DropClue.ok).cons impl_DropClue.ok).cons spec_DrawDropClue.ok).cons spec_AddClue.ok).cons impl_AddClue.ok).cons spec_DrawAddClue.ok).cons laws_qRows.ok).cons impl_NeedlessClues.ok).cons impl_Solutions.ok).cons impl_IsSolved.ok).cons spec_HarderPuzzle.ok).cons impl_HarderPuzzle.ok).cons spec_DrawHarderPuzzle.ok).cons impl_IsPuzzle.ok).cons impl_CountOfKind.ok).cons impl_ProductIn.ok).cons impl_DoesFit.ok).cons impl_SumIn.ok).cons spec_MakePuzzle.ok).cons impl_MakePuzzle.ok).cons spec_DrawMakePuzzle.ok).cons laws_big.ok
noncomputable def laws_FnAgesHidden.i : FI := ⟨Tryz.f3, body Tryz.f3, (.seq .nil (.seq (.seq .nil (.cond (.seq .nil .nil) .nil)) (.seq .nil (.seq .nil (.seq .nil (.seq (.cut [1, 5, 6, 8, 9, 98] [8] .nil (.cond (.seq .nil .nil) .nil)) (.cut [1] [] (.seq .nil (.cond (.seq .nil (.seq .nil (.seq .nil (.seq .nil (.seq .nil (.seq .nil (.cut [1, 5, 6, 8, 12, 13, 14, 15, 17, 18, 19, 21, 22, 23, 24, 25] [8] .nil (.seq (.cut [1, 5, 8, 198] [8] .nil (.cond (.seq .nil .nil) .nil)) (.seq .nil (.blk (.loop [1, 5, 200, 201, 202] [] (.seq .nil (.seq (.cond .nil .nil) (.seq (.blk (.seq .nil (.seq .nil (.seq .nil (.cond (.seq .nil .nil) .nil))))) .nil)))))))))))))) .nil)) (.seq .nil (.seq .nil (.seq .nil (.cut [1, 30, 31, 32, 33, 34, 35, 36] [30, 31, 33] .nil (.seq (.cut [1, 30, 31, 32, 252] [30, 31] .nil (.cond (.seq .nil .nil) .nil)) (.cut [1] [] (.seq .nil (.cond (.seq .nil (.seq .nil (.cut [1, 30, 31, 37, 38, 39, 40, 41, 42] [30, 31] .nil (.seq .nil (.cond (.seq .nil .nil) .nil))))) .nil)) (.seq .nil (.seq .nil (.seq .nil (.seq .nil (.seq .nil (.seq .nil (.seq .nil (.seq .nil (.cut [1, 43, 44, 45, 46, 47, 48, 49, 50, 51, 52, 53, 54, 55, 56, 57, 58, 59, 60] [43, 44, 45, 47, 49, 51, 53, 55] .nil (.cut [43, 44, 45, 46, 47, 48, 49, 50, 51, 52, 53, 54, 55, 56, 57, 58, 59, 60, 61, 62] [43, 44, 45, 47, 49, 51, 53, 55, 62] .nil (.seq (.cut [43, 44, 45, 46, 49, 50, 51, 52, 403] [43, 44, 45, 49, 51] .nil (.cond (.seq .nil .nil) .nil)) (.cut [49, 50, 51, 52] [49, 51] (.seq .nil (.cond (.cut [43, 44, 45, 49, 50, 51, 52, 63, 64] [43, 44, 45, 49, 51, 63] .nil (.seq .nil (.cond (.seq .nil .nil) .nil))) .nil)) (.seq (.cut [49, 50, 51, 440] [49, 51] .nil (.cond (.seq .nil (.seq .nil .nil)) .nil)) (.seq .nil .nil))))))))))))))))))))))))))), [], [], [.res (.tmp 4) (.v .bool)]⟩
noncomputable def laws_FnAgesHidden.sp : CSpec := mkSpec laws_FnAgesHidden.g T laws_FnAgesHidden.i
theorem laws_FnAgesHidden.ok : SpecOk Tryz.prog I 3 laws_FnAgesHidden.sp := mkSpec_ok hmix hI laws_FnAgesHidden.gok tok laws_FnAgesHidden.i Tryz.func3 (by kernel_rfl) (by kernel_rfl) (by kernel_rfl) (by kernel_rfl)
noncomputable def laws_FnAgesHidden.f (x0 : List Int) (x1 : List Int) : Option (Bool) := run laws_FnAgesHidden.g T laws_FnAgesHidden.i [.v (.slice (.int .u8)) x0, .v (.slice (.int .u8)) x1]
noncomputable def laws_FnAgesHidden.j0 (x1 : List Int) (x5 : List Int) (x6 : Int) (x9 : Bool) (x98 : Bool) (xb8_0 : Int) (xb8_1 : List (Int × Int × Int)) : Option (Bool) := runJ laws_FnAgesHidden.g T laws_FnAgesHidden.i [true, true, true, true, true, false, true] [(1, .val (.slice (.int .u8)) x1), (5, .val (.slice (.int .i64)) x5), (6, .val (.int .i64) x6), (8, .ptr 8 0), (9, .val .bool x9), (98, .val .bool x98)] [(8, [⟨(.int .i64), xb8_0⟩, ⟨(.slice (.pair (.int .i64) (.pair (.int .i64) (.int .i64)))), xb8_1⟩])]
noncomputable def laws_FnAgesHidden.j1 (x1 : List Int) (x5 : List Int) (x6 : Int) (x12 : Int) (x13 : Bool) (x14 : Bool) (x15 : Bool) (x17 : Bool) (x18 : Bool) (x19 : Bool) (x21 : Bool) (x22 : Bool) (x23 : Bool) (x24 : Bool) (x25 : Bool) (xb8_0 : Int) (xb8_1 : List (Int × Int × Int)) : Option (Bool) := runJ laws_FnAgesHidden.g T laws_FnAgesHidden.i [true, true, true, true, true, true, false, true, false, true, true, true, true, true, true, true] [(1, .val (.slice (.int .u8)) x1), (5, .val (.slice (.int .i64)) x5), (6, .val (.int .i64) x6), (8, .ptr 8 0), (12, .val (.int .i64) x12), (13, .val .bool x13), (14, .val .bool x14), (15, .val .bool x15), (17, .val .bool x17), (18, .val .bool x18), (19, .val .bool x19), (21, .val .bool x21), (22, .val .bool x22), (23, .val .bool x23), (24, .val .bool x24), (25, .val .bool x25)] [(8, [⟨(.int .i64), xb8_0⟩, ⟨(.slice (.pair (.int .i64) (.pair (.int .i64) (.int .i64)))), xb8_1⟩])]
noncomputable def laws_FnAgesHidden.j2 (x1 : List Int) (x5 : List Int) (x198 : Bool) (xb8_0 : Int) (xb8_1 : List (Int × Int × Int)) : Option (Bool) := runJ laws_FnAgesHidden.g T laws_FnAgesHidden.i [true, true, true, true, true, true, false, true, false, true, true, true, true, true, true, true, false, true] [(1, .val (.slice (.int .u8)) x1), (5, .val (.slice (.int .i64)) x5), (8, .ptr 8 0), (198, .val .bool x198)] [(8, [⟨(.int .i64), xb8_0⟩, ⟨(.slice (.pair (.int .i64) (.pair (.int .i64) (.int .i64)))), xb8_1⟩])]
noncomputable def laws_FnAgesHidden.l0 (x1 : List Int) (x5 : List Int) (x200 : List (Int × Int × Int)) (x201 : Int) (x202 : Int) : Option (Bool) := runAt laws_FnAgesHidden.g T laws_FnAgesHidden.i [true, true, true, true, true, true, false, true, false, true, true, true, true, true, true, true, true, true, false] [(1, .val (.slice (.int .u8)) x1), (5, .val (.slice (.int .i64)) x5), (200, .val (.slice (.pair (.int .i64) (.pair (.int .i64) (.int .i64)))) x200), (201, .val (.int .i64) x201), (202, .val (.int .i64) x202)] []
noncomputable def laws_FnAgesHidden.j3 (x1 : List Int) : Option (Bool) := runJ laws_FnAgesHidden.g T laws_FnAgesHidden.i [true, true, true, true, true, true, true] [(1, .val (.slice (.int .u8)) x1)] []
noncomputable def laws_FnAgesHidden.j4 (x1 : List Int) (x32 : Bool) (x34 : Bool) (x35 : Bool) (x36 : Bool) (xb30_0 : Int) (xb30_1 : List (Int × Int × Int)) (xb31_0 : Int) (xb31_1 : List (Int × Int × Int)) (xb33_0 : Int) (xb33_1 : List (Int × Int × Int)) : Option (Bool) := runJ laws_FnAgesHidden.g T laws_FnAgesHidden.i [true, true, true, true, true, true, true, true, true, true, true] [(1, .val (.slice (.int .u8)) x1), (30, .ptr 30 0), (31, .ptr 31 0), (32, .val .bool x32), (33, .ptr 33 0), (34, .val .bool x34), (35, .val .bool x35), (36, .val .bool x36)] [(30, [⟨(.int .i64), xb30_0⟩, ⟨(.slice (.pair (.int .i64) (.pair (.int .i64) (.int .i64)))), xb30_1⟩]), (31, [⟨(.int .i64), xb31_0⟩, ⟨(.slice (.pair (.int .i64) (.pair (.int .i64) (.int .i64)))), xb31_1⟩]), (33, [⟨(.int .i64), xb33_0⟩, ⟨(.slice (.pair (.int .i64) (.pair (.int .i64) (.int .i64)))), xb33_1⟩])]
noncomputable def laws_FnAgesHidden.j5 (x1 : List Int) (x32 : Bool) (x252 : Bool) (xb30_0 : Int) (xb30_1 : List (Int × Int × Int)) (xb31_0 : Int) (xb31_1 : List (Int × Int × Int)) : Option (Bool) := runJ laws_FnAgesHidden.g T laws_FnAgesHidden.i [true, true, true, true, true, true, true, true, true, true, true, false, true] [(1, .val (.slice (.int .u8)) x1), (30, .ptr 30 0), (31, .ptr 31 0), (32, .val .bool x32), (252, .val .bool x252)] [(30, [⟨(.int .i64), xb30_0⟩, ⟨(.slice (.pair (.int .i64) (.pair (.int .i64) (.int .i64)))), xb30_1⟩]), (31, [⟨(.int .i64), xb31_0⟩, ⟨(.slice (.pair (.int .i64) (.pair (.int .i64) (.int .i64)))), xb31_1⟩])]
noncomputable def laws_FnAgesHidden.j6 (x1 : List Int) (x37 : List (List Int)) (x38 : Bool) (x39 : List (List Int)) (x40 : Bool) (x41 : List Int) (x42 : Bool) (xb30_0 : Int) (xb30_1 : List (Int × Int × Int)) (xb31_0 : Int) (xb31_1 : List (Int × Int × Int)) : Option (Bool) := runJ laws_FnAgesHidden.g T laws_FnAgesHidden.i [true, true, true, true, true, true, true, true, true, true, true, true, false, true, false, true, true, true] [(1, .val (.slice (.int .u8)) x1), (30, .ptr 30 0), (31, .ptr 31 0), (37, .own 24 (.slice (.int .i64)) x37), (38, .val .bool x38), (39, .own 24 (.slice (.int .i64)) x39), (40, .val .bool x40), (41, .own 3 (.int .i64) x41), (42, .val .bool x42)] [(30, [⟨(.int .i64), xb30_0⟩, ⟨(.slice (.pair (.int .i64) (.pair (.int .i64) (.int .i64)))), xb30_1⟩]), (31, [⟨(.int .i64), xb31_0⟩, ⟨(.slice (.pair (.int .i64) (.pair (.int .i64) (.int .i64)))), xb31_1⟩])]
noncomputable def laws_FnAgesHidden.j7 (x1 : List Int) : Option (Bool) := runJ laws_FnAgesHidden.g T laws_FnAgesHidden.i [true, true, true, true, true, true, true, true, true, true, true, true, true] [(1, .val (.slice (.int .u8)) x1)] []
noncomputable def laws_FnAgesHidden.j8 (x1 : List Int) (x46 : Bool) (x48 : Bool) (x50 : Int) (x52 : Bool) (x54 : Bool) (x56 : List Int) (x57 : Bool) (x58 : Bool) (x59 : Bool) (x60 : Bool) (xb43_0 : Int) (xb43_1 : List (Int × Int × Int)) (xb44_0 : Int) (xb44_1 : Int) (xb44_2 : Int) (xb45_0 : Int) (xb45_1 : List (Int × Int × Int)) (xb47_0 : Int) (xb47_1 : List (Int × Int × Int)) (xb49_0 : Int) (xb49_1 : List (Int × Int × Int)) (xb51_0 : Int) (xb51_1 : List (Int × Int × Int)) (xb53_0 : Int) (xb53_1 : List (Int × Int × Int)) (xb55_0 : Int) (xb55_1 : Int) (xb55_2 : Int) : Option (Bool) := runJ laws_FnAgesHidden.g T laws_FnAgesHidden.i [true, true, true, true, true, true, true, true, true, true, true, true, true, true, true, true, true, true, true, true, true, true] [(1, .val (.slice (.int .u8)) x1), (43, .ptr 43 0), (44, .ptr 44 0), (45, .ptr 45 0), (46, .val .bool x46), (47, .ptr 47 0), (48, .val .bool x48), (49, .ptr 49 0), (50, .val (.int .i64) x50), (51, .ptr 51 0), (52, .val .bool x52), (53, .ptr 53 0), (54, .val .bool x54), (55, .ptr 55 0), (56, .own 3 (.int .i64) x56), (57, .val .bool x57), (58, .val .bool x58), (59, .val .bool x59), (60, .val .bool x60)] [(43, [⟨(.int .i64), xb43_0⟩, ⟨(.slice (.pair (.int .i64) (.pair (.int .i64) (.int .i64)))), xb43_1⟩]), (44, [⟨(.int .i64), xb44_0⟩, ⟨(.int .i64), xb44_1⟩, ⟨(.int .i64), xb44_2⟩]), (45, [⟨(.int .i64), xb45_0⟩, ⟨(.slice (.pair (.int .i64) (.pair (.int .i64) (.int .i64)))), xb45_1⟩]), (47, [⟨(.int .i64), xb47_0⟩, ⟨(.slice (.pair (.int .i64) (.pair (.int .i64) (.int .i64)))), xb47_1⟩]), (49, [⟨(.int .i64), xb49_0⟩, ⟨(.slice (.pair (.int .i64) (.pair (.int .i64) (.int .i64)))), xb49_1⟩]), (51, [⟨(.int .i64), xb51_0⟩, ⟨(.slice (.pair (.int .i64) (.pair (.int .i64) (.int .i64)))), xb51_1⟩]), (53, [⟨(.int .i64), xb53_0⟩, ⟨(.slice (.pair (.int .i64) (.pair (.int .i64) (.int .i64)))), xb53_1⟩]), (55, [⟨(.int .i64), xb55_0⟩, ⟨(.int .i64), xb55_1⟩, ⟨(.int .i64), xb55_2⟩])]
noncomputable def laws_FnAgesHidden.j9 (x46 : Bool) (x48 : Bool) (x50 : Int) (x52 : Bool) (x54 : Bool) (x56 : List Int) (x57 : Bool) (x58 : Bool) (x59 : Bool) (x60 : Bool) (x61 : Int) (xb43_0 : Int) (xb43_1 : List (Int × Int × Int)) (xb44_0 : Int) (xb44_1 : Int) (xb44_2 : Int) (xb45_0 : Int) (xb45_1 : List (Int × Int × Int)) (xb47_0 : Int) (xb47_1 : List (Int × Int × Int)) (xb49_0 : Int) (xb49_1 : List (Int × Int × Int)) (xb51_0 : Int) (xb51_1 : List (Int × Int × Int)) (xb53_0 : Int) (xb53_1 : List (Int × Int × Int)) (xb55_0 : Int) (xb55_1 : Int) (xb55_2 : Int) (xb62_0 : Int) (xb62_1 : Int) (xb62_2 : Int) : Option (Bool) := runJ laws_FnAgesHidden.g T laws_FnAgesHidden.i [true, true, true, true, true, true, true, true, true, true, true, true, true, true, true, true, true, true, true, true, true, true, true] [(43, .ptr 43 0), (44, .ptr 44 0), (45, .ptr 45 0), (46, .val .bool x46), (47, .ptr 47 0), (48, .val .bool x48), (49, .ptr 49 0), (50, .val (.int .i64) x50), (51, .ptr 51 0), (52, .val .bool x52), (53, .ptr 53 0), (54, .val .bool x54), (55, .ptr 55 0), (56, .own 3 (.int .i64) x56), (57, .val .bool x57), (58, .val .bool x58), (59, .val .bool x59), (60, .val .bool x60), (61, .val (.int .i64) x61), (62, .ptr 62 0)] [(43, [⟨(.int .i64), xb43_0⟩, ⟨(.slice (.pair (.int .i64) (.pair (.int .i64) (.int .i64)))), xb43_1⟩]), (44, [⟨(.int .i64), xb44_0⟩, ⟨(.int .i64), xb44_1⟩, ⟨(.int .i64), xb44_2⟩]), (45, [⟨(.int .i64), xb45_0⟩, ⟨(.slice (.pair (.int .i64) (.pair (.int .i64) (.int .i64)))), xb45_1⟩]), (47, [⟨(.int .i64), xb47_0⟩, ⟨(.slice (.pair (.int .i64) (.pair (.int .i64) (.int .i64)))), xb47_1⟩]), (49, [⟨(.int .i64), xb49_0⟩, ⟨(.slice (.pair (.int .i64) (.pair (.int .i64) (.int .i64)))), xb49_1⟩]), (51, [⟨(.int .i64), xb51_0⟩, ⟨(.slice (.pair (.int .i64) (.pair (.int .i64) (.int .i64)))), xb51_1⟩]), (53, [⟨(.int .i64), xb53_0⟩, ⟨(.slice (.pair (.int .i64) (.pair (.int .i64) (.int .i64)))), xb53_1⟩]), (55, [⟨(.int .i64), xb55_0⟩, ⟨(.int .i64), xb55_1⟩, ⟨(.int .i64), xb55_2⟩]), (62, [⟨(.int .i64), xb62_0⟩, ⟨(.int .i64), xb62_1⟩, ⟨(.int .i64), xb62_2⟩])]
noncomputable def laws_FnAgesHidden.j10 (x46 : Bool) (x50 : Int) (x52 : Bool) (x403 : Bool) (xb43_0 : Int) (xb43_1 : List (Int × Int × Int)) (xb44_0 : Int) (xb44_1 : Int) (xb44_2 : Int) (xb45_0 : Int) (xb45_1 : List (Int × Int × Int)) (xb49_0 : Int) (xb49_1 : List (Int × Int × Int)) (xb51_0 : Int) (xb51_1 : List (Int × Int × Int)) : Option (Bool) := runJ laws_FnAgesHidden.g T laws_FnAgesHidden.i [true, true, true, true, true, true, true, true, true, true, true, true, true, true, true, true, true, true, true, true, true, true, true, false, true] [(43, .ptr 43 0), (44, .ptr 44 0), (45, .ptr 45 0), (46, .val .bool x46), (49, .ptr 49 0), (50, .val (.int .i64) x50), (51, .ptr 51 0), (52, .val .bool x52), (403, .val .bool x403)] [(43, [⟨(.int .i64), xb43_0⟩, ⟨(.slice (.pair (.int .i64) (.pair (.int .i64) (.int .i64)))), xb43_1⟩]), (44, [⟨(.int .i64), xb44_0⟩, ⟨(.int .i64), xb44_1⟩, ⟨(.int .i64), xb44_2⟩]), (45, [⟨(.int .i64), xb45_0⟩, ⟨(.slice (.pair (.int .i64) (.pair (.int .i64) (.int .i64)))), xb45_1⟩]), (49, [⟨(.int .i64), xb49_0⟩, ⟨(.slice (.pair (.int .i64) (.pair (.int .i64) (.int .i64)))), xb49_1⟩]), (51, [⟨(.int .i64), xb51_0⟩, ⟨(.slice (.pair (.int .i64) (.pair (.int .i64) (.int .i64)))), xb51_1⟩])]
noncomputable def laws_FnAgesHidden.j11 (x50 : Int) (x52 : Bool) (x64 : Bool) (xb43_0 : Int) (xb43_1 : List (Int × Int × Int)) (xb44_0 : Int) (xb44_1 : Int) (xb44_2 : Int) (xb45_0 : Int) (xb45_1 : List (Int × Int × Int)) (xb49_0 : Int) (xb49_1 : List (Int × Int × Int)) (xb51_0 : Int) (xb51_1 : List (Int × Int × Int)) (xb63_0 : Int) (xb63_1 : List (Int × Int × Int)) : Option (Bool) := runJ laws_FnAgesHidden.g T laws_FnAgesHidden.i [true, true, true, true, true, true, true, true, true, true, true, true, true, true, true, true, true, true, true, true, true, true, true, true, false, true, false, true] [(43, .ptr 43 0), (44, .ptr 44 0), (45, .ptr 45 0), (49, .ptr 49 0), (50, .val (.int .i64) x50), (51, .ptr 51 0), (52, .val .bool x52), (63, .ptr 63 0), (64, .val .bool x64)] [(43, [⟨(.int .i64), xb43_0⟩, ⟨(.slice (.pair (.int .i64) (.pair (.int .i64) (.int .i64)))), xb43_1⟩]), (44, [⟨(.int .i64), xb44_0⟩, ⟨(.int .i64), xb44_1⟩, ⟨(.int .i64), xb44_2⟩]), (45, [⟨(.int .i64), xb45_0⟩, ⟨(.slice (.pair (.int .i64) (.pair (.int .i64) (.int .i64)))), xb45_1⟩]), (49, [⟨(.int .i64), xb49_0⟩, ⟨(.slice (.pair (.int .i64) (.pair (.int .i64) (.int .i64)))), xb49_1⟩]), (51, [⟨(.int .i64), xb51_0⟩, ⟨(.slice (.pair (.int .i64) (.pair (.int .i64) (.int .i64)))), xb51_1⟩]), (63, [⟨(.int .i64), xb63_0⟩, ⟨(.slice (.pair (.int .i64) (.pair (.int .i64) (.int .i64)))), xb63_1⟩])]
noncomputable def laws_FnAgesHidden.j12 (x50 : Int) (x52 : Bool) (xb49_0 : Int) (xb49_1 : List (Int × Int × Int)) (xb51_0 : Int) (xb51_1 : List (Int × Int × Int)) : Option (Bool) := runJ laws_FnAgesHidden.g T laws_FnAgesHidden.i [true, true, true, true, true, true, true, true, true, true, true, true, true, true, true, true, true, true, true, true, true, true, true, true, true] [(49, .ptr 49 0), (50, .val (.int .i64) x50), (51, .ptr 51 0), (52, .val .bool x52)] [(49, [⟨(.int .i64), xb49_0⟩, ⟨(.slice (.pair (.int .i64) (.pair (.int .i64) (.int .i64)))), xb49_1⟩]), (51, [⟨(.int .i64), xb51_0⟩, ⟨(.slice (.pair (.int .i64) (.pair (.int .i64) (.int .i64)))), xb51_1⟩])]
noncomputable def laws_FnAgesHidden.j13 (x50 : Int) (x440 : Bool) (xb49_0 : Int) (xb49_1 : List (Int × Int × Int)) (xb51_0 : Int) (xb51_1 : List (Int × Int × Int)) : Option (Bool) := runJ laws_FnAgesHidden.g T laws_FnAgesHidden.i [true, true, true, true, true, true, true, true, true, true, true, true, true, true, true, true, true, true, true, true, true, true, true, true, true, false, true] [(49, .ptr 49 0), (50, .val (.int .i64) x50), (51, .ptr 51 0), (440, .val .bool x440)] [(49, [⟨(.int .i64), xb49_0⟩, ⟨(.slice (.pair (.int .i64) (.pair (.int .i64) (.int .i64)))), xb49_1⟩]), (51, [⟨(.int .i64), xb51_0⟩, ⟨(.slice (.pair (.int .i64) (.pair (.int .i64) (.int .i64)))), xb51_1⟩])]
theorem laws_FnAgesHidden.f.eq (x0 : List Int) (x1 : List Int) : laws_FnAgesHidden.f x0 x1 =
  (laws_big.f x0 x1).bind fun y1 =>
  if y1 = true then
    some true
  else
    (spec_DrawMakePuzzle.f x0).bind fun y2 =>
    (impl_MakePuzzle.f y2.1 y2.2.1 y2.2.2).bind fun y3 =>
    (spec_MakePuzzle.f y2.1 y2.2.1 y2.2.2).bind fun y4 =>
    if (!(y3.2 == y4.2)) = true then
      laws_FnAgesHidden.j0 x1 y2.1 y2.2.1 y3.2 true y3.1.1 y3.1.2
    else
      (laws_qPuzzle.f (y3.1.1, y3.1.2) (y4.1.1, y4.1.2)).bind fun y48 =>
      laws_FnAgesHidden.j0 x1 y2.1 y2.2.1 y3.2 (if false = true then true else !y48) y3.1.1 y3.1.2 := by kernel_rfl
theorem laws_FnAgesHidden.j0.eq (x1 : List Int) (x5 : List Int) (x6 : Int) (x9 : Bool) (x98 : Bool) (xb8_0 : Int) (xb8_1 : List (Int × Int × Int)) : laws_FnAgesHidden.j0 x1 x5 x6 x9 x98 xb8_0 xb8_1 =
  if x98 = true then
    some false
  else
    if x9 = true then
      (impl_SumIn.f x5 0).bind fun y1 =>
      (impl_DoesFit.f (0, 0, y1.1) x5).bind fun y2 =>
      (impl_ProductIn.f x5 0).bind fun y3 =>
      (impl_DoesFit.f (2, 0, y3.1) x5).bind fun y4 =>
      (impl_CountOfKind.f x5 0 [112]).bind fun y5 =>
      (impl_DoesFit.f (4, 0, y5.1) x5).bind fun y6 =>
      (impl_DoesFit.f (6, 0, 2) x5).bind fun y7 =>
      laws_FnAgesHidden.j1 x1 x5 x6 y1.1 y1.2 y2.1 y2.2 y3.2 y4.1 y4.2 y5.2 y6.1 y6.2 y7.1 y7.2 xb8_0 xb8_1
    else
      laws_FnAgesHidden.j3 x1 := (runJ_eq _ _ _ _ _ _).trans (by kernel_rfl)
theorem laws_FnAgesHidden.j1.eq (x1 : List Int) (x5 : List Int) (x6 : Int) (x12 : Int) (x13 : Bool) (x14 : Bool) (x15 : Bool) (x17 : Bool) (x18 : Bool) (x19 : Bool) (x21 : Bool) (x22 : Bool) (x23 : Bool) (x24 : Bool) (x25 : Bool) (xb8_0 : Int) (xb8_1 : List (Int × Int × Int)) : laws_FnAgesHidden.j1 x1 x5 x6 x12 x13 x14 x15 x17 x18 x19 x21 x22 x23 x24 x25 xb8_0 xb8_1 =
  (impl_IsPuzzle.f (xb8_0, xb8_1)).bind fun y1 =>
  if (!y1) = true then
    laws_FnAgesHidden.j2 x1 x5 true xb8_0 xb8_1
  else
    if (if false = true then true else ((xb8_1.length : Int) != x6)) = true then
      laws_FnAgesHidden.j2 x1 x5 true xb8_0 xb8_1
    else
      if (if false = true then true else !x13) = true then
        laws_FnAgesHidden.j2 x1 x5 true xb8_0 xb8_1
      else
        if (if false = true then true else !x15) = true then
          laws_FnAgesHidden.j2 x1 x5 true xb8_0 xb8_1
        else
          if (if false = true then true else !x14) = true then
            laws_FnAgesHidden.j2 x1 x5 true xb8_0 xb8_1
          else
            if (if false = true then true else !x17) = true then
              laws_FnAgesHidden.j2 x1 x5 true xb8_0 xb8_1
            else
              if (if false = true then true else !x19) = true then
                laws_FnAgesHidden.j2 x1 x5 true xb8_0 xb8_1
              else
                if (if false = true then true else !x18) = true then
                  laws_FnAgesHidden.j2 x1 x5 true xb8_0 xb8_1
                else
                  if (if false = true then true else !x21) = true then
                    laws_FnAgesHidden.j2 x1 x5 true xb8_0 xb8_1
                  else
                    if (if false = true then true else !x23) = true then
                      laws_FnAgesHidden.j2 x1 x5 true xb8_0 xb8_1
                    else
                      if (if false = true then true else !x22) = true then
                        laws_FnAgesHidden.j2 x1 x5 true xb8_0 xb8_1
                      else
                        if (if false = true then true else !x25) = true then
                          laws_FnAgesHidden.j2 x1 x5 true xb8_0 xb8_1
                        else
                          laws_FnAgesHidden.j2 x1 x5 (if false = true then true else (!(x24 == ((x12.tmod 2) == 0)))) xb8_0 xb8_1 := (runJ_eq _ _ _ _ _ _).trans (by kernel_rfl)
theorem laws_FnAgesHidden.j2.eq (x1 : List Int) (x5 : List Int) (x198 : Bool) (xb8_0 : Int) (xb8_1 : List (Int × Int × Int)) : laws_FnAgesHidden.j2 x1 x5 x198 xb8_0 xb8_1 =
  if x198 = true then
    some false
  else
    laws_FnAgesHidden.l0 x1 x5 xb8_1 (xb8_1.length : Int) 0 := (runJ_eq _ _ _ _ _ _).trans (by kernel_rfl)
theorem laws_FnAgesHidden.l0.eq (x1 : List Int) (x5 : List Int) (x200 : List (Int × Int × Int)) (x201 : Int) (x202 : Int) : laws_FnAgesHidden.l0 x1 x5 x200 x201 x202 =
  if (decide (x202 < x201)) = true then
    (rdI x200 x202).bind fun y2 =>
    (impl_DoesFit.f (y2.1, y2.2.1, y2.2.2) x5).bind fun y3 =>
    if (!y3.2) = true then
      some false
    else
      if (if false = true then true else !y3.1) = true then
        some false
      else
        laws_FnAgesHidden.l0 x1 x5 x200 x201 (IntKind.i64.wrap (x202 + 1))
  else
    laws_FnAgesHidden.j3 x1 := (runAt_loop _ _ _ _ _ _).trans (by kernel_rfl)
theorem laws_FnAgesHidden.j3.eq (x1 : List Int) : laws_FnAgesHidden.j3 x1 =
  (spec_DrawHarderPuzzle.f x1).bind fun y1 =>
  (impl_HarderPuzzle.f (y1.1, y1.2)).bind fun y2 =>
  (spec_HarderPuzzle.f (y1.1, y1.2)).bind fun y3 =>
  (impl_IsSolved.f (y1.1, y1.2)).bind fun y4 =>
  laws_FnAgesHidden.j4 x1 y2.2 y3.2 y4.1 y4.2 y1.1 y1.2 y2.1.1 y2.1.2 y3.1.1 y3.1.2 := (runJ_eq _ _ _ _ _ _).trans (by kernel_rfl)
theorem laws_FnAgesHidden.j4.eq (x1 : List Int) (x32 : Bool) (x34 : Bool) (x35 : Bool) (x36 : Bool) (xb30_0 : Int) (xb30_1 : List (Int × Int × Int)) (xb31_0 : Int) (xb31_1 : List (Int × Int × Int)) (xb33_0 : Int) (xb33_1 : List (Int × Int × Int)) : laws_FnAgesHidden.j4 x1 x32 x34 x35 x36 xb30_0 xb30_1 xb31_0 xb31_1 xb33_0 xb33_1 =
  if (!(x32 == x34)) = true then
    laws_FnAgesHidden.j5 x1 x32 true xb30_0 xb30_1 xb31_0 xb31_1
  else
    (laws_qPuzzle.f (xb31_0, xb31_1) (xb33_0, xb33_1)).bind fun y25 =>
    if (if false = true then true else !y25) = true then
      laws_FnAgesHidden.j5 x1 x32 true xb30_0 xb30_1 xb31_0 xb31_1
    else
      if x36 = true then
        laws_FnAgesHidden.j5 x1 x32 (if false = true then true else (!(x32 == (if true = true then x35 else false)))) xb30_0 xb30_1 xb31_0 xb31_1
      else
        laws_FnAgesHidden.j5 x1 x32 (if false = true then true else (!(x32 == false))) xb30_0 xb30_1 xb31_0 xb31_1 := (runJ_eq _ _ _ _ _ _).trans (by kernel_rfl)
theorem laws_FnAgesHidden.j5.eq (x1 : List Int) (x32 : Bool) (x252 : Bool) (xb30_0 : Int) (xb30_1 : List (Int × Int × Int)) (xb31_0 : Int) (xb31_1 : List (Int × Int × Int)) : laws_FnAgesHidden.j5 x1 x32 x252 xb30_0 xb30_1 xb31_0 xb31_1 =
  if x252 = true then
    some false
  else
    if x32 = true then
      (impl_Solutions.f (xb30_0, xb30_1)).bind fun y1 =>
      (impl_Solutions.f (xb31_0, xb31_1)).bind fun y2 =>
      (impl_NeedlessClues.f (xb31_0, xb31_1)).bind fun y3 =>
      laws_FnAgesHidden.j6 x1 y1.1 y1.2 y2.1 y2.2 y3.1 y3.2 xb30_0 xb30_1 xb31_0 xb31_1
    else
      laws_FnAgesHidden.j7 x1 := (runJ_eq _ _ _ _ _ _).trans (by kernel_rfl)
theorem laws_FnAgesHidden.j6.eq (x1 : List Int) (x37 : List (List Int)) (x38 : Bool) (x39 : List (List Int)) (x40 : Bool) (x41 : List Int) (x42 : Bool) (xb30_0 : Int) (xb30_1 : List (Int × Int × Int)) (xb31_0 : Int) (xb31_1 : List (Int × Int × Int)) : laws_FnAgesHidden.j6 x1 x37 x38 x39 x40 x41 x42 xb30_0 xb30_1 xb31_0 xb31_1 =
  if (!x38) = true then
    some false
  else
    if (if false = true then true else !x40) = true then
      some false
    else
      (laws_qRows.f x37 x39).bind fun y2 =>
      if (if false = true then true else !y2) = true then
        some false
      else
        if (if false = true then true else !x42) = true then
          some false
        else
          if (if false = true then true else (x41.length : Int) != 0) = true then
            some false
          else
            if (if false = true then true else (decide ((xb31_1.length : Int) > (xb30_1.length : Int)))) = true then
              some false
            else
              laws_FnAgesHidden.j7 x1 := (runJ_eq _ _ _ _ _ _).trans (by kernel_rfl)
theorem laws_FnAgesHidden.j7.eq (x1 : List Int) : laws_FnAgesHidden.j7 x1 =
  (spec_DrawAddClue.f x1).bind fun y1 =>
  (impl_AddClue.f (y1.1.1, y1.1.2) (y1.2.1, y1.2.2.1, y1.2.2.2)).bind fun y2 =>
  (spec_AddClue.f (y1.1.1, y1.1.2) (y1.2.1, y1.2.2.1, y1.2.2.2)).bind fun y3 =>
  (spec_DrawDropClue.f x1).bind fun y4 =>
  (impl_DropClue.f (y4.1.1, y4.1.2) y4.2).bind fun y5 =>
  (spec_DropClue.f (y4.1.1, y4.1.2) y4.2).bind fun y6 =>
  (spec_DrawDoesFit.f x1).bind fun y7 =>
  (impl_DoesFit.f (y7.1.1, y7.1.2.1, y7.1.2.2) y7.2).bind fun y8 =>
  (spec_DoesFit.f (y7.1.1, y7.1.2.1, y7.1.2.2) y7.2).bind fun y9 =>
  laws_FnAgesHidden.j8 x1 y2.2 y3.2 y4.2 y5.2 y6.2 y7.2 y8.1 y8.2 y9.1 y9.2 y1.1.1 y1.1.2 y1.2.1 y1.2.2.1 y1.2.2.2 y2.1.1 y2.1.2 y3.1.1 y3.1.2 y4.1.1 y4.1.2 y5.1.1 y5.1.2 y6.1.1 y6.1.2 y7.1.1 y7.1.2.1 y7.1.2.2 := (runJ_eq _ _ _ _ _ _).trans (by kernel_rfl)
theorem laws_FnAgesHidden.j8.eq (x1 : List Int) (x46 : Bool) (x48 : Bool) (x50 : Int) (x52 : Bool) (x54 : Bool) (x56 : List Int) (x57 : Bool) (x58 : Bool) (x59 : Bool) (x60 : Bool) (xb43_0 : Int) (xb43_1 : List (Int × Int × Int)) (xb44_0 : Int) (xb44_1 : Int) (xb44_2 : Int) (xb45_0 : Int) (xb45_1 : List (Int × Int × Int)) (xb47_0 : Int) (xb47_1 : List (Int × Int × Int)) (xb49_0 : Int) (xb49_1 : List (Int × Int × Int)) (xb51_0 : Int) (xb51_1 : List (Int × Int × Int)) (xb53_0 : Int) (xb53_1 : List (Int × Int × Int)) (xb55_0 : Int) (xb55_1 : Int) (xb55_2 : Int) : laws_FnAgesHidden.j8 x1 x46 x48 x50 x52 x54 x56 x57 x58 x59 x60 xb43_0 xb43_1 xb44_0 xb44_1 xb44_2 xb45_0 xb45_1 xb47_0 xb47_1 xb49_0 xb49_1 xb51_0 xb51_1 xb53_0 xb53_1 xb55_0 xb55_1 xb55_2 =
  (spec_DrawIsClue.f x1).bind fun y1 =>
  laws_FnAgesHidden.j9 x46 x48 x50 x52 x54 x56 x57 x58 x59 x60 y1.1 xb43_0 xb43_1 xb44_0 xb44_1 xb44_2 xb45_0 xb45_1 xb47_0 xb47_1 xb49_0 xb49_1 xb51_0 xb51_1 xb53_0 xb53_1 xb55_0 xb55_1 xb55_2 y1.2.1 y1.2.2.1 y1.2.2.2 := (runJ_eq _ _ _ _ _ _).trans (by kernel_rfl)
theorem laws_FnAgesHidden.j9.eq (x46 : Bool) (x48 : Bool) (x50 : Int) (x52 : Bool) (x54 : Bool) (x56 : List Int) (x57 : Bool) (x58 : Bool) (x59 : Bool) (x60 : Bool) (x61 : Int) (xb43_0 : Int) (xb43_1 : List (Int × Int × Int)) (xb44_0 : Int) (xb44_1 : Int) (xb44_2 : Int) (xb45_0 : Int) (xb45_1 : List (Int × Int × Int)) (xb47_0 : Int) (xb47_1 : List (Int × Int × Int)) (xb49_0 : Int) (xb49_1 : List (Int × Int × Int)) (xb51_0 : Int) (xb51_1 : List (Int × Int × Int)) (xb53_0 : Int) (xb53_1 : List (Int × Int × Int)) (xb55_0 : Int) (xb55_1 : Int) (xb55_2 : Int) (xb62_0 : Int) (xb62_1 : Int) (xb62_2 : Int) : laws_FnAgesHidden.j9 x46 x48 x50 x52 x54 x56 x57 x58 x59 x60 x61 xb43_0 xb43_1 xb44_0 xb44_1 xb44_2 xb45_0 xb45_1 xb47_0 xb47_1 xb49_0 xb49_1 xb51_0 xb51_1 xb53_0 xb53_1 xb55_0 xb55_1 xb55_2 xb62_0 xb62_1 xb62_2 =
  if (!(x46 == x48)) = true then
    laws_FnAgesHidden.j10 x46 x50 x52 true xb43_0 xb43_1 xb44_0 xb44_1 xb44_2 xb45_0 xb45_1 xb49_0 xb49_1 xb51_0 xb51_1
  else
    (laws_qPuzzle.f (xb45_0, xb45_1) (xb47_0, xb47_1)).bind fun y7 =>
    if (if false = true then true else !y7) = true then
      laws_FnAgesHidden.j10 x46 x50 x52 true xb43_0 xb43_1 xb44_0 xb44_1 xb44_2 xb45_0 xb45_1 xb49_0 xb49_1 xb51_0 xb51_1
    else
      if (if false = true then true else (!(x52 == x54))) = true then
        laws_FnAgesHidden.j10 x46 x50 x52 true xb43_0 xb43_1 xb44_0 xb44_1 xb44_2 xb45_0 xb45_1 xb49_0 xb49_1 xb51_0 xb51_1
      else
        (laws_qPuzzle.f (xb51_0, xb51_1) (xb53_0, xb53_1)).bind fun y11 =>
        if (if false = true then true else !y11) = true then
          laws_FnAgesHidden.j10 x46 x50 x52 true xb43_0 xb43_1 xb44_0 xb44_1 xb44_2 xb45_0 xb45_1 xb49_0 xb49_1 xb51_0 xb51_1
        else
          if (if false = true then true else (!(x58 == x60))) = true then
            laws_FnAgesHidden.j10 x46 x50 x52 true xb43_0 xb43_1 xb44_0 xb44_1 xb44_2 xb45_0 xb45_1 xb49_0 xb49_1 xb51_0 xb51_1
          else
            if (if false = true then true else (!(x57 == x59))) = true then
              laws_FnAgesHidden.j10 x46 x50 x52 true xb43_0 xb43_1 xb44_0 xb44_1 xb44_2 xb45_0 xb45_1 xb49_0 xb49_1 xb51_0 xb51_1
            else
              (impl_IsClue.f x61 (xb62_0, xb62_1, xb62_2)).bind fun y17 =>
              (spec_IsClue.f x61 (xb62_0, xb62_1, xb62_2)).bind fun y18 =>
              if (if false = true then true else (!(y17 == y18))) = true then
                laws_FnAgesHidden.j10 x46 x50 x52 true xb43_0 xb43_1 xb44_0 xb44_1 xb44_2 xb45_0 xb45_1 xb49_0 xb49_1 xb51_0 xb51_1
              else
                if x58 = true then
                  (impl_IsClue.f (x56.length : Int) (xb55_0, xb55_1, xb55_2)).bind fun y22 =>
                  laws_FnAgesHidden.j10 x46 x50 x52 (if false = true then true else (if true = true then !y22 else false)) xb43_0 xb43_1 xb44_0 xb44_1 xb44_2 xb45_0 xb45_1 xb49_0 xb49_1 xb51_0 xb51_1
                else
                  laws_FnAgesHidden.j10 x46 x50 x52 false xb43_0 xb43_1 xb44_0 xb44_1 xb44_2 xb45_0 xb45_1 xb49_0 xb49_1 xb51_0 xb51_1 := (runJ_eq _ _ _ _ _ _).trans (by kernel_rfl)
theorem laws_FnAgesHidden.j10.eq (x46 : Bool) (x50 : Int) (x52 : Bool) (x403 : Bool) (xb43_0 : Int) (xb43_1 : List (Int × Int × Int)) (xb44_0 : Int) (xb44_1 : Int) (xb44_2 : Int) (xb45_0 : Int) (xb45_1 : List (Int × Int × Int)) (xb49_0 : Int) (xb49_1 : List (Int × Int × Int)) (xb51_0 : Int) (xb51_1 : List (Int × Int × Int)) : laws_FnAgesHidden.j10 x46 x50 x52 x403 xb43_0 xb43_1 xb44_0 xb44_1 xb44_2 xb45_0 xb45_1 xb49_0 xb49_1 xb51_0 xb51_1 =
  if x403 = true then
    some false
  else
    if x46 = true then
      (impl_DropClue.f (xb45_0, xb45_1) (xb43_1.length : Int)).bind fun y2 =>
      laws_FnAgesHidden.j11 x50 x52 y2.2 xb43_0 xb43_1 xb44_0 xb44_1 xb44_2 xb45_0 xb45_1 xb49_0 xb49_1 xb51_0 xb51_1 y2.1.1 y2.1.2
    else
      laws_FnAgesHidden.j12 x50 x52 xb49_0 xb49_1 xb51_0 xb51_1 := (runJ_eq _ _ _ _ _ _).trans (by kernel_rfl)
theorem laws_FnAgesHidden.j11.eq (x50 : Int) (x52 : Bool) (x64 : Bool) (xb43_0 : Int) (xb43_1 : List (Int × Int × Int)) (xb44_0 : Int) (xb44_1 : Int) (xb44_2 : Int) (xb45_0 : Int) (xb45_1 : List (Int × Int × Int)) (xb49_0 : Int) (xb49_1 : List (Int × Int × Int)) (xb51_0 : Int) (xb51_1 : List (Int × Int × Int)) (xb63_0 : Int) (xb63_1 : List (Int × Int × Int)) : laws_FnAgesHidden.j11 x50 x52 x64 xb43_0 xb43_1 xb44_0 xb44_1 xb44_2 xb45_0 xb45_1 xb49_0 xb49_1 xb51_0 xb51_1 xb63_0 xb63_1 =
  if (!x64) = true then
    some false
  else
    (laws_qPuzzle.f (xb63_0, xb63_1) (xb43_0, xb43_1)).bind fun y1 =>
    if (if false = true then true else !y1) = true then
      some false
    else
      (rdI xb45_1 (xb43_1.length : Int)).bind fun y4 =>
      if (if false = true then true else (!((y4.1 == xb44_0) && ((y4.2.1 == xb44_1) && (y4.2.2 == xb44_2))))) = true then
        some false
      else
        laws_FnAgesHidden.j12 x50 x52 xb49_0 xb49_1 xb51_0 xb51_1 := (runJ_eq _ _ _ _ _ _).trans (by kernel_rfl)
theorem laws_FnAgesHidden.j12.eq (x50 : Int) (x52 : Bool) (xb49_0 : Int) (xb49_1 : List (Int × Int × Int)) (xb51_0 : Int) (xb51_1 : List (Int × Int × Int)) : laws_FnAgesHidden.j12 x50 x52 xb49_0 xb49_1 xb51_0 xb51_1 =
  if x52 = true then
    laws_FnAgesHidden.j13 x50 (if true = true then (x50 == (IntKind.i64.wrap ((xb49_1.length : Int) - 1))) else false) xb49_0 xb49_1 xb51_0 xb51_1
  else
    laws_FnAgesHidden.j13 x50 false xb49_0 xb49_1 xb51_0 xb51_1 := (runJ_eq _ _ _ _ _ _).trans (by kernel_rfl)
theorem laws_FnAgesHidden.j13.eq (x50 : Int) (x440 : Bool) (xb49_0 : Int) (xb49_1 : List (Int × Int × Int)) (xb51_0 : Int) (xb51_1 : List (Int × Int × Int)) : laws_FnAgesHidden.j13 x50 x440 xb49_0 xb49_1 xb51_0 xb51_1 =
  if x440 = true then
    (rdI xb49_1 x50).bind fun y1 =>
    (impl_AddClue.f (xb51_0, xb51_1) y1).bind fun y2 =>
    if y2.2 = true then
      (laws_qPuzzle.f (y2.1.1, y2.1.2) (xb49_0, xb49_1)).bind fun y3 =>
      some (if true = true then y3 else false)
    else
      some false
  else
    some true := (runJ_eq _ _ _ _ _ _).trans (by kernel_rfl)
end Go.Proofs.YtbmbejbhlcadmaaGreat.S
