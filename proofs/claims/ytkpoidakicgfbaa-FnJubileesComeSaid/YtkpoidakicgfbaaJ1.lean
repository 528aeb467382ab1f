/- What the functions of this seat come to, over plain values. No condition. -/
import Derived.Test.YtkpoidakicgfbaaJ0
namespace Go.Proofs.Ytkpoidakicgfbaa.S
open Go Go.Proofs.Ytkpoidakicgfbaa.Eng Go.Proofs
set_option maxRecDepth 1000000
set_option linter.unusedVariables false
noncomputable def spec_MostJubilees.g : Gam := [(35, spec_roAll.sp), (36, spec_roIn.sp)]
theorem spec_MostJubilees.gok : GOk Try.prog spec_MostJubilees.g := ((GOk.nil _).cons spec_roIn.ok).cons spec_roAll.ok
noncomputable def spec_MostJubilees.i : FI := ⟨Try.f11, body Try.f11, (.seq .nil (.seq (.seq .nil (.cond (.seq .nil .nil) .nil)) (.seq .nil (.seq (.seq .nil (.blk (.loop [0, 2, 3, 11, 12, 13] [] (.seq (.seq .nil (.cond .nil .nil)) (.seq (.blk (.seq .nil (.seq .nil (.cond (.seq .nil .nil) .nil)))) .nil))))) (.seq .nil .nil))))), [], [], [.res (.tmp 8) (.v (.int .i64)), .res (.tmp 9) (.v (.int .i64)), .res (.tmp 10) (.v .bool)]⟩
noncomputable def spec_MostJubilees.sp : CSpec := mkSpec spec_MostJubilees.g T spec_MostJubilees.i
theorem spec_MostJubilees.ok : SpecOk Try.prog 11 spec_MostJubilees.sp := mkSpec_ok hmix spec_MostJubilees.gok tok spec_MostJubilees.i Try.func11 (by kernel_rfl) (by kernel_rfl) (by kernel_rfl) (by kernel_rfl)
noncomputable def spec_MostJubilees.f (x0 : List Int) (x1 : Int) (x2 : Int) (x3 : Int) : Option (Int × Int × Bool) := run spec_MostJubilees.g T spec_MostJubilees.i [.v (.slice (.int .i64)) x0, .v (.int .i64) x1, .v (.int .i64) x2, .v (.int .i64) x3]
noncomputable def spec_MostJubilees.l0 (x0 : List Int) (x2 : Int) (x3 : Int) (x11 : Int) (x12 : Int) (x13 : Int) : Option (Int × Int × Bool) := runAt spec_MostJubilees.g T spec_MostJubilees.i [true, true, true, false, true, false] [(0, .val (.slice (.int .i64)) x0), (2, .val (.int .i64) x2), (3, .val (.int .i64) x3), (11, .val (.int .i64) x11), (12, .val (.int .i64) x12), (13, .val (.int .i64) x13)] []
theorem spec_MostJubilees.f.eq (x0 : List Int) (x1 : Int) (x2 : Int) (x3 : Int) : spec_MostJubilees.f x0 x1 x2 x3 =
  (spec_roAll.f x0 x1 x2 x3).bind fun y1 =>
  if (!y1) = true then
    some (0, 0, false)
  else
    spec_MostJubilees.l0 x0 x2 x3 x1 (-1) x1 := by kernel_rfl
theorem spec_MostJubilees.l0.eq (x0 : List Int) (x2 : Int) (x3 : Int) (x11 : Int) (x12 : Int) (x13 : Int) : spec_MostJubilees.l0 x0 x2 x3 x11 x12 x13 =
  if (decide (x13 ≤ x2)) = true then
    (spec_roIn.f x0 x13 x3).bind fun y2 =>
    if (decide ((y2.length : Int) > x12)) = true then
      spec_MostJubilees.l0 x0 x2 x3 x13 (y2.length : Int) (IntKind.i64.wrap (x13 + 1))
    else
      spec_MostJubilees.l0 x0 x2 x3 x11 x12 (IntKind.i64.wrap (x13 + 1))
  else
    some (x11, x12, true) := (runAt_loop _ _ _ _ _ _).trans (by kernel_rfl)
noncomputable def impl_LongestQuiet.g : Gam := [(34, impl_calendar.sp)]
theorem impl_LongestQuiet.gok : GOk Try.prog impl_LongestQuiet.g := (GOk.nil _).cons impl_calendar.ok
noncomputable def impl_LongestQuiet.i : FI := ⟨Try.f12, body Try.f12, (.seq .nil (.seq .nil (.seq (.seq .nil (.cond (.seq .nil .nil) .nil)) (.seq .nil (.seq (.seq .nil (.blk (.loop [13, 14, 15, 34, 35, 36] [] (.seq .nil (.seq (.cond .nil .nil) (.seq (.blk (.seq .nil (.seq (.seq .nil (.cond .nil .nil)) .nil))) .nil)))))) (.seq .nil .nil)))))), [], [], [.res (.tmp 8) (.v (.int .i64)), .res (.tmp 9) (.v (.int .i64)), .res (.tmp 10) (.v .bool)]⟩
noncomputable def impl_LongestQuiet.sp : CSpec := mkSpec impl_LongestQuiet.g T impl_LongestQuiet.i
theorem impl_LongestQuiet.ok : SpecOk Try.prog 12 impl_LongestQuiet.sp := mkSpec_ok hmix impl_LongestQuiet.gok tok impl_LongestQuiet.i Try.func12 (by kernel_rfl) (by kernel_rfl) (by kernel_rfl) (by kernel_rfl)
noncomputable def impl_LongestQuiet.f (x0 : List Int) (x1 : Int) (x2 : Int) (x3 : Int) : Option (Int × Int × Bool) := run impl_LongestQuiet.g T impl_LongestQuiet.i [.v (.slice (.int .i64)) x0, .v (.int .i64) x1, .v (.int .i64) x2, .v (.int .i64) x3]
noncomputable def impl_LongestQuiet.l0 (x13 : Int) (x14 : Int) (x15 : Int) (x34 : List (List Int)) (x35 : Int) (x36 : Int) : Option (Int × Int × Bool) := runAt impl_LongestQuiet.g T impl_LongestQuiet.i [true, true, true, true, false, true, false] [(13, .val (.int .i64) x13), (14, .val (.int .i64) x14), (15, .val (.int .i64) x15), (34, .own 24 (.slice (.int .i64)) x34), (35, .val (.int .i64) x35), (36, .val (.int .i64) x36)] []
theorem impl_LongestQuiet.f.eq (x0 : List Int) (x1 : Int) (x2 : Int) (x3 : Int) : impl_LongestQuiet.f x0 x1 x2 x3 =
  (impl_calendar.f x0 x1 x2 x3).bind fun y1 =>
  if (!y1.2) = true then
    some (0, 0, false)
  else
    (catI (appMax 24) y1.1 [[(IntKind.i64.wrap (x2 + 1))]]).bind fun y3 =>
    impl_LongestQuiet.l0 0 0 x1 y3 (y3.length : Int) 0 := by kernel_rfl
theorem impl_LongestQuiet.l0.eq (x13 : Int) (x14 : Int) (x15 : Int) (x34 : List (List Int)) (x35 : Int) (x36 : Int) : impl_LongestQuiet.l0 x13 x14 x15 x34 x35 x36 =
  if (decide (x36 < x35)) = true then
    (rdI x34 x36).bind fun y2 =>
    (rdI y2 0).bind fun y3 =>
    if (decide ((IntKind.i64.wrap (y3 - x15)) > x14)) = true then
      (rdI y2 0).bind fun y6 =>
      (rdI y2 0).bind fun y8 =>
      impl_LongestQuiet.l0 x15 (IntKind.i64.wrap (y6 - x15)) (IntKind.i64.wrap (y8 + 1)) x34 x35 (IntKind.i64.wrap (x36 + 1))
    else
      (rdI y2 0).bind fun y11 =>
      impl_LongestQuiet.l0 x13 x14 (IntKind.i64.wrap (y11 + 1)) x34 x35 (IntKind.i64.wrap (x36 + 1))
  else
    some (x13, x14, (decide (x14 > 0))) := (runAt_loop _ _ _ _ _ _).trans (by kernel_rfl)
noncomputable def spec_LongestQuiet.g : Gam := [(35, spec_roAll.sp), (36, spec_roIn.sp)]
theorem spec_LongestQuiet.gok : GOk Try.prog spec_LongestQuiet.g := ((GOk.nil _).cons spec_roIn.ok).cons spec_roAll.ok
noncomputable def spec_LongestQuiet.i : FI := ⟨Try.f13, body Try.f13, (.seq .nil (.seq (.seq .nil (.cond (.seq .nil .nil) .nil)) (.seq .nil (.seq (.seq .nil (.blk (.loop [0, 2, 3, 11, 12, 13, 14] [] (.seq (.seq .nil (.cond .nil .nil)) (.seq (.blk (.seq .nil (.seq (.seq .nil (.cond .nil .nil)) (.seq .nil (.cond (.seq .nil .nil) .nil))))) .nil))))) (.seq (.seq .nil (.cond (.seq .nil .nil) .nil)) (.seq .nil .nil)))))), [], [], [.res (.tmp 8) (.v (.int .i64)), .res (.tmp 9) (.v (.int .i64)), .res (.tmp 10) (.v .bool)]⟩
noncomputable def spec_LongestQuiet.sp : CSpec := mkSpec spec_LongestQuiet.g T spec_LongestQuiet.i
theorem spec_LongestQuiet.ok : SpecOk Try.prog 13 spec_LongestQuiet.sp := mkSpec_ok hmix spec_LongestQuiet.gok tok spec_LongestQuiet.i Try.func13 (by kernel_rfl) (by kernel_rfl) (by kernel_rfl) (by kernel_rfl)
noncomputable def spec_LongestQuiet.f (x0 : List Int) (x1 : Int) (x2 : Int) (x3 : Int) : Option (Int × Int × Bool) := run spec_LongestQuiet.g T spec_LongestQuiet.i [.v (.slice (.int .i64)) x0, .v (.int .i64) x1, .v (.int .i64) x2, .v (.int .i64) x3]
noncomputable def spec_LongestQuiet.l0 (x0 : List Int) (x2 : Int) (x3 : Int) (x11 : Int) (x12 : Int) (x13 : Int) (x14 : Int) : Option (Int × Int × Bool) := runAt spec_LongestQuiet.g T spec_LongestQuiet.i [true, true, true, false, true, false] [(0, .val (.slice (.int .i64)) x0), (2, .val (.int .i64) x2), (3, .val (.int .i64) x3), (11, .val (.int .i64) x11), (12, .val (.int .i64) x12), (13, .val (.int .i64) x13), (14, .val (.int .i64) x14)] []
theorem spec_LongestQuiet.f.eq (x0 : List Int) (x1 : Int) (x2 : Int) (x3 : Int) : spec_LongestQuiet.f x0 x1 x2 x3 =
  (spec_roAll.f x0 x1 x2 x3).bind fun y1 =>
  if (!y1) = true then
    some (0, 0, false)
  else
    spec_LongestQuiet.l0 x0 x2 x3 0 0 0 x1 := by kernel_rfl
theorem spec_LongestQuiet.l0.eq (x0 : List Int) (x2 : Int) (x3 : Int) (x11 : Int) (x12 : Int) (x13 : Int) (x14 : Int) : spec_LongestQuiet.l0 x0 x2 x3 x11 x12 x13 x14 =
  if (decide (x14 ≤ x2)) = true then
    let y2 := IntKind.i64.wrap (x13 + 1)
    (spec_roIn.f x0 x14 x3).bind fun y3 =>
    if (decide ((y3.length : Int) > 0)) = true then
      if (decide (0 > x12)) = true then
        spec_LongestQuiet.l0 x0 x2 x3 (IntKind.i64.wrap ((IntKind.i64.wrap (x14 - 0)) + 1)) 0 0 (IntKind.i64.wrap (x14 + 1))
      else
        spec_LongestQuiet.l0 x0 x2 x3 x11 x12 0 (IntKind.i64.wrap (x14 + 1))
    else
      if (decide (y2 > x12)) = true then
        spec_LongestQuiet.l0 x0 x2 x3 (IntKind.i64.wrap ((IntKind.i64.wrap (x14 - y2)) + 1)) y2 y2 (IntKind.i64.wrap (x14 + 1))
      else
        spec_LongestQuiet.l0 x0 x2 x3 x11 x12 y2 (IntKind.i64.wrap (x14 + 1))
  else
    if (x12 == 0) = true then
      some (0, 0, false)
    else
      some (x11, x12, true) := (runAt_loop _ _ _ _ _ _).trans (by kernel_rfl)
noncomputable def laws_qSame.g : Gam := []
theorem laws_qSame.gok : GOk Try.prog laws_qSame.g := GOk.nil _
noncomputable def laws_qSame.i : FI := ⟨Try.f19, body Try.f19, (.seq .nil (.seq (.seq .nil (.cond (.seq .nil .nil) .nil)) (.seq (.seq .nil (.blk (.loop [0, 1, 12, 13] [] (.seq .nil (.seq (.cond .nil .nil) (.seq (.blk (.seq .nil (.seq .nil (.cond (.seq .nil .nil) .nil)))) .nil)))))) (.seq .nil .nil)))), [], [], [.res (.tmp 4) (.v .bool)]⟩
noncomputable def laws_qSame.sp : CSpec := mkSpec laws_qSame.g T laws_qSame.i
theorem laws_qSame.ok : SpecOk Try.prog 19 laws_qSame.sp := mkSpec_ok hmix laws_qSame.gok tok laws_qSame.i Try.func19 (by kernel_rfl) (by kernel_rfl) (by kernel_rfl) (by kernel_rfl)
noncomputable def laws_qSame.f (x0 : List Int) (x1 : List Int) : Option (Bool) := run laws_qSame.g T laws_qSame.i [.v (.slice (.int .i64)) x0, .v (.slice (.int .i64)) x1]
noncomputable def laws_qSame.l0 (x0 : List Int) (x1 : List Int) (x12 : Int) (x13 : Int) : Option (Bool) := runAt laws_qSame.g T laws_qSame.i [true, true, false, true, false] [(0, .val (.slice (.int .i64)) x0), (1, .val (.slice (.int .i64)) x1), (12, .val (.int .i64) x12), (13, .val (.int .i64) x13)] []
theorem laws_qSame.f.eq (x0 : List Int) (x1 : List Int) : laws_qSame.f x0 x1 =
  if ((x0.length : Int) != (x1.length : Int)) = true then
    some false
  else
    laws_qSame.l0 x0 x1 (x0.length : Int) 0 := by kernel_rfl
theorem laws_qSame.l0.eq (x0 : List Int) (x1 : List Int) (x12 : Int) (x13 : Int) : laws_qSame.l0 x0 x1 x12 x13 =
  if (decide (x13 < x12)) = true then
    (rdI x0 x13).bind fun y2 =>
    (rdI x1 x13).bind fun y3 =>
    if (y2 != y3) = true then
      some false
    else
      laws_qSame.l0 x0 x1 x12 (IntKind.i64.wrap (x13 + 1))
  else
    some true := (runAt_loop _ _ _ _ _ _).trans (by kernel_rfl)
noncomputable def laws_qRows.g : Gam := [(19, laws_qSame.sp)]
theorem laws_qRows.gok : GOk Try.prog laws_qRows.g := (GOk.nil _).cons laws_qSame.ok
noncomputable def laws_qRows.i : FI := ⟨Try.f14, body Try.f14, (.seq .nil (.seq (.seq .nil (.cond (.seq .nil .nil) .nil)) (.seq (.seq .nil (.blk (.loop [0, 1, 12, 13] [] (.seq .nil (.seq (.cond .nil .nil) (.seq (.blk (.seq .nil (.seq .nil (.cond (.seq .nil .nil) .nil)))) .nil)))))) (.seq .nil .nil)))), [], [], [.res (.tmp 4) (.v .bool)]⟩
noncomputable def laws_qRows.sp : CSpec := mkSpec laws_qRows.g T laws_qRows.i
theorem laws_qRows.ok : SpecOk Try.prog 14 laws_qRows.sp := mkSpec_ok hmix laws_qRows.gok tok laws_qRows.i Try.func14 (by kernel_rfl) (by kernel_rfl) (by kernel_rfl) (by kernel_rfl)
noncomputable def laws_qRows.f (x0 : List (List Int)) (x1 : List (List Int)) : Option (Bool) := run laws_qRows.g T laws_qRows.i [.v (.slice (.slice (.int .i64))) x0, .v (.slice (.slice (.int .i64))) x1]
noncomputable def laws_qRows.l0 (x0 : List (List Int)) (x1 : List (List Int)) (x12 : Int) (x13 : Int) : Option (Bool) := runAt laws_qRows.g T laws_qRows.i [true, true, false, true, false] [(0, .val (.slice (.slice (.int .i64))) x0), (1, .val (.slice (.slice (.int .i64))) x1), (12, .val (.int .i64) x12), (13, .val (.int .i64) x13)] []
theorem laws_qRows.f.eq (x0 : List (List Int)) (x1 : List (List Int)) : laws_qRows.f x0 x1 =
  if ((x0.length : Int) != (x1.length : Int)) = true then
    some false
  else
    laws_qRows.l0 x0 x1 (x0.length : Int) 0 := by kernel_rfl
theorem laws_qRows.l0.eq (x0 : List (List Int)) (x1 : List (List Int)) (x12 : Int) (x13 : Int) : laws_qRows.l0 x0 x1 x12 x13 =
  if (decide (x13 < x12)) = true then
    (rdI x0 x13).bind fun y2 =>
    (rdI x1 x13).bind fun y3 =>
    (laws_qSame.f y2 y3).bind fun y4 =>
    if (!y4) = true then
      some false
    else
      laws_qRows.l0 x0 x1 x12 (IntKind.i64.wrap (x13 + 1))
  else
    some true := (runAt_loop _ _ _ _ _ _).trans (by kernel_rfl)
noncomputable def spec_AreBirths.g : Gam := [(39, spec_roBorn.sp)]
theorem spec_AreBirths.gok : GOk Try.prog spec_AreBirths.g := (GOk.nil _).cons spec_roBorn.ok
noncomputable def spec_AreBirths.i : FI := ⟨Try.f16, body Try.f16, (.seq .nil (.seq .nil .nil)), [], [], [.res (.tmp 2) (.v .bool)]⟩
noncomputable def spec_AreBirths.sp : CSpec := mkSpec spec_AreBirths.g T spec_AreBirths.i
theorem spec_AreBirths.ok : SpecOk Try.prog 16 spec_AreBirths.sp := mkSpec_ok hmix spec_AreBirths.gok tok spec_AreBirths.i Try.func16 (by kernel_rfl) (by kernel_rfl) (by kernel_rfl) (by kernel_rfl)
noncomputable def spec_AreBirths.f (x0 : List Int) : Option (Bool) := run spec_AreBirths.g T spec_AreBirths.i [.v (.slice (.int .i64)) x0]
theorem spec_AreBirths.f.eq (x0 : List Int) : spec_AreBirths.f x0 =
  (spec_roBorn.f x0).bind fun y1 =>
  some y1 := by kernel_rfl
noncomputable def impl_JubileesIn.g : Gam := [(15, impl_AreBirths.sp), (40, impl_isYear.sp), (41, impl_isEvery.sp), (42, impl_jubilees.sp)]
theorem impl_JubileesIn.gok : GOk Try.prog impl_JubileesIn.g := ((((GOk.nil _).cons impl_jubilees.ok).cons impl_isEvery.ok).cons impl_isYear.ok).cons impl_AreBirths.ok
noncomputable def impl_JubileesIn.i : FI := ⟨Try.f17, body Try.f17, (.seq .nil (.seq (.seq .nil (.cond (.seq .nil .nil) .nil)) (.seq .nil .nil))), [], [], [.res (.tmp 6) (.own 3 (.int .i64)), .res (.tmp 7) (.v .bool)]⟩
noncomputable def impl_JubileesIn.sp : CSpec := mkSpec impl_JubileesIn.g T impl_JubileesIn.i
theorem impl_JubileesIn.ok : SpecOk Try.prog 17 impl_JubileesIn.sp := mkSpec_ok hmix impl_JubileesIn.gok tok impl_JubileesIn.i Try.func17 (by kernel_rfl) (by kernel_rfl) (by kernel_rfl) (by kernel_rfl)
noncomputable def impl_JubileesIn.f (x0 : List Int) (x1 : Int) (x2 : Int) : Option ((List Int) × Bool) := run impl_JubileesIn.g T impl_JubileesIn.i [.v (.slice (.int .i64)) x0, .v (.int .i64) x1, .v (.int .i64) x2]
theorem impl_JubileesIn.f.eq (x0 : List Int) (x1 : Int) (x2 : Int) : impl_JubileesIn.f x0 x1 x2 =
  (impl_AreBirths.f x0).bind fun y1 =>
  if (!y1) = true then
    some ([], false)
  else
    (impl_isYear.f x1).bind fun y2 =>
    if (if false = true then true else !y2) = true then
      some ([], false)
    else
      (impl_isEvery.f x2).bind fun y4 =>
      if (if false = true then true else !y4) = true then
        some ([], false)
      else
        (impl_jubilees.f x0 x1 x2).bind fun y6 =>
        some (y6, true) := by kernel_rfl
noncomputable def laws_qRises.g : Gam := []
theorem laws_qRises.gok : GOk Try.prog laws_qRises.g := GOk.nil _
noncomputable def laws_qRises.i : FI := ⟨Try.f18, body Try.f18, (.seq .nil (.seq (.seq .nil (.blk (.loop [0, 3] [] (.seq (.seq .nil (.cond .nil .nil)) (.seq (.blk (.seq .nil (.cond (.seq .nil .nil) .nil))) .nil))))) (.seq .nil .nil))), [], [], [.res (.tmp 2) (.v .bool)]⟩
noncomputable def laws_qRises.sp : CSpec := mkSpec laws_qRises.g T laws_qRises.i
theorem laws_qRises.ok : SpecOk Try.prog 18 laws_qRises.sp := mkSpec_ok hmix laws_qRises.gok tok laws_qRises.i Try.func18 (by kernel_rfl) (by kernel_rfl) (by kernel_rfl) (by kernel_rfl)
noncomputable def laws_qRises.f (x0 : List Int) : Option (Bool) := run laws_qRises.g T laws_qRises.i [.v (.slice (.int .i64)) x0]
noncomputable def laws_qRises.l0 (x0 : List Int) (x3 : Int) : Option (Bool) := runAt laws_qRises.g T laws_qRises.i [true, false, true, false] [(0, .val (.slice (.int .i64)) x0), (3, .val (.int .i64) x3)] []
theorem laws_qRises.f.eq (x0 : List Int) : laws_qRises.f x0 =
  laws_qRises.l0 x0 1 := by kernel_rfl
theorem laws_qRises.l0.eq (x0 : List Int) (x3 : Int) : laws_qRises.l0 x0 x3 =
  if (decide (x3 < (x0.length : Int))) = true then
    (rdI x0 (IntKind.i64.wrap (x3 - 1))).bind fun y4 =>
    (rdI x0 x3).bind fun y5 =>
    if (decide (y4 ≥ y5)) = true then
      some false
    else
      laws_qRises.l0 x0 (IntKind.i64.wrap (x3 + 1))
  else
    some true := (runAt_loop _ _ _ _ _ _).trans (by kernel_rfl)
noncomputable def spec_DrawJubileesIn.g : Gam := [(46, spec_l1Cur_born.sp), (49, spec_l1Cur_year.sp), (47, spec_l1Cur_jubilee.sp)]
theorem spec_DrawJubileesIn.gok : GOk Try.prog spec_DrawJubileesIn.g := (((GOk.nil _).cons spec_l1Cur_jubilee.ok).cons spec_l1Cur_year.ok).cons spec_l1Cur_born.ok
noncomputable def spec_DrawJubileesIn.i : FI := ⟨Try.f43, body Try.f43, (.seq .nil (.seq .nil (.seq .nil .nil))), [], [], [.res (.tmp 2) (.own 3 (.int .i64)), .res (.tmp 3) (.v (.int .i64)), .res (.tmp 4) (.v (.int .i64))]⟩
noncomputable def spec_DrawJubileesIn.sp : CSpec := mkSpec spec_DrawJubileesIn.g T spec_DrawJubileesIn.i
theorem spec_DrawJubileesIn.ok : SpecOk Try.prog 43 spec_DrawJubileesIn.sp := mkSpec_ok hmix spec_DrawJubileesIn.gok tok spec_DrawJubileesIn.i Try.func43 (by kernel_rfl) (by kernel_rfl) (by kernel_rfl) (by kernel_rfl)
noncomputable def spec_DrawJubileesIn.f (x0 : List Int) : Option ((List Int) × Int × Int) := run spec_DrawJubileesIn.g T spec_DrawJubileesIn.i [.v (.slice (.int .u8)) x0]
theorem spec_DrawJubileesIn.f.eq (x0 : List Int) : spec_DrawJubileesIn.f x0 =
  (spec_l1Cur_born.f x0 0 0).bind fun y1 =>
  (spec_l1Cur_year.f y1.2.1 y1.2.2.1 y1.2.2.2).bind fun y2 =>
  (spec_l1Cur_jubilee.f y2.2.1 y2.2.2.1 y2.2.2.2).bind fun y3 =>
  some (y1.1, y2.1, y3.1) := by kernel_rfl
noncomputable def spec_DrawNextJubilee.g : Gam := [(43, spec_DrawJubileesIn.sp)]
theorem spec_DrawNextJubilee.gok : GOk Try.prog spec_DrawNextJubilee.g := (GOk.nil _).cons spec_DrawJubileesIn.ok
noncomputable def spec_DrawNextJubilee.i : FI := ⟨Try.f20, body Try.f20, (.seq .nil (.seq .nil .nil)), [], [], [.res (.tmp 2) (.own 3 (.int .i64)), .res (.tmp 3) (.v (.int .i64)), .res (.tmp 4) (.v (.int .i64))]⟩
noncomputable def spec_DrawNextJubilee.sp : CSpec := mkSpec spec_DrawNextJubilee.g T spec_DrawNextJubilee.i
theorem spec_DrawNextJubilee.ok : SpecOk Try.prog 20 spec_DrawNextJubilee.sp := mkSpec_ok hmix spec_DrawNextJubilee.gok tok spec_DrawNextJubilee.i Try.func20 (by kernel_rfl) (by kernel_rfl) (by kernel_rfl) (by kernel_rfl)
noncomputable def spec_DrawNextJubilee.f (x0 : List Int) : Option ((List Int) × Int × Int) := run spec_DrawNextJubilee.g T spec_DrawNextJubilee.i [.v (.slice (.int .u8)) x0]
theorem spec_DrawNextJubilee.f.eq (x0 : List Int) : spec_DrawNextJubilee.f x0 =
  (spec_DrawJubileesIn.f x0).bind fun y1 =>
  some (y1.1, y1.2.1, y1.2.2) := by kernel_rfl
noncomputable def impl_NextJubilee.g : Gam := [(15, impl_AreBirths.sp), (42, impl_jubilees.sp), (40, impl_isYear.sp), (41, impl_isEvery.sp)]
theorem impl_NextJubilee.gok : GOk Try.prog impl_NextJubilee.g := ((((GOk.nil _).cons impl_isEvery.ok).cons impl_isYear.ok).cons impl_jubilees.ok).cons impl_AreBirths.ok
noncomputable def impl_NextJubilee.i : FI := ⟨Try.f21, body Try.f21, (.seq .nil (.seq (.cut [0, 1, 2, 21] [] .nil (.cond (.seq .nil .nil) .nil)) (.seq (.seq .nil (.blk (.loop [0, 2, 8] [] (.seq (.seq .nil (.cond .nil .nil)) (.seq (.blk (.seq .nil (.cond (.seq .nil .nil) .nil))) .nil))))) (.seq .nil .nil)))), [], [], [.res (.tmp 6) (.v (.int .i64)), .res (.tmp 7) (.v .bool)]⟩
noncomputable def impl_NextJubilee.sp : CSpec := mkSpec impl_NextJubilee.g T impl_NextJubilee.i
theorem impl_NextJubilee.ok : SpecOk Try.prog 21 impl_NextJubilee.sp := mkSpec_ok hmix impl_NextJubilee.gok tok impl_NextJubilee.i Try.func21 (by kernel_rfl) (by kernel_rfl) (by kernel_rfl) (by kernel_rfl)
noncomputable def impl_NextJubilee.f (x0 : List Int) (x1 : Int) (x2 : Int) : Option (Int × Bool) := run impl_NextJubilee.g T impl_NextJubilee.i [.v (.slice (.int .i64)) x0, .v (.int .i64) x1, .v (.int .i64) x2]
noncomputable def impl_NextJubilee.j0 (x0 : List Int) (x1 : Int) (x2 : Int) (x21 : Bool) : Option (Int × Bool) := runJ impl_NextJubilee.g T impl_NextJubilee.i [true, false, true] [(0, .val (.slice (.int .i64)) x0), (1, .val (.int .i64) x1), (2, .val (.int .i64) x2), (21, .val .bool x21)] []
noncomputable def impl_NextJubilee.l0 (x0 : List Int) (x2 : Int) (x8 : Int) : Option (Int × Bool) := runAt impl_NextJubilee.g T impl_NextJubilee.i [true, true, false, true, false] [(0, .val (.slice (.int .i64)) x0), (2, .val (.int .i64) x2), (8, .val (.int .i64) x8)] []
theorem impl_NextJubilee.f.eq (x0 : List Int) (x1 : Int) (x2 : Int) : impl_NextJubilee.f x0 x1 x2 =
  (impl_AreBirths.f x0).bind fun y1 =>
  if (!y1) = true then
    impl_NextJubilee.j0 x0 x1 x2 true
  else
    (impl_isYear.f x1).bind fun y6 =>
    if (if false = true then true else !y6) = true then
      impl_NextJubilee.j0 x0 x1 x2 true
    else
      (impl_isEvery.f x2).bind fun y8 =>
      impl_NextJubilee.j0 x0 x1 x2 (if false = true then true else !y8) := by kernel_rfl
theorem impl_NextJubilee.j0.eq (x0 : List Int) (x1 : Int) (x2 : Int) (x21 : Bool) : impl_NextJubilee.j0 x0 x1 x2 x21 =
  if x21 = true then
    some (0, false)
  else
    impl_NextJubilee.l0 x0 x2 (IntKind.i64.wrap (x1 + 1)) := (runJ_eq _ _ _ _ _ _).trans (by kernel_rfl)
theorem impl_NextJubilee.l0.eq (x0 : List Int) (x2 : Int) (x8 : Int) : impl_NextJubilee.l0 x0 x2 x8 =
  if (decide (x8 ≤ 3000)) = true then
    (impl_jubilees.f x0 x8 x2).bind fun y2 =>
    if (decide ((y2.length : Int) > 0)) = true then
      some (x8, true)
    else
      impl_NextJubilee.l0 x0 x2 (IntKind.i64.wrap (x8 + 1))
  else
    some (0, false) := (runAt_loop _ _ _ _ _ _).trans (by kernel_rfl)
noncomputable def spec_roYear.g : Gam := [(39, spec_roBorn.sp), (52, spec_l1In.sp)]
theorem spec_roYear.gok : GOk Try.prog spec_roYear.g := ((GOk.nil _).cons spec_l1In.ok).cons spec_roBorn.ok
noncomputable def spec_roYear.i : FI := ⟨Try.f44, body Try.f44, (.seq .nil (.seq .nil .nil)), [], [], [.res (.tmp 4) (.v .bool)]⟩
noncomputable def spec_roYear.sp : CSpec := mkSpec spec_roYear.g T spec_roYear.i
theorem spec_roYear.ok : SpecOk Try.prog 44 spec_roYear.sp := mkSpec_ok hmix spec_roYear.gok tok spec_roYear.i Try.func44 (by kernel_rfl) (by kernel_rfl) (by kernel_rfl) (by kernel_rfl)
noncomputable def spec_roYear.f (x0 : List Int) (x1 : Int) : Option (Bool) := run spec_roYear.g T spec_roYear.i [.v (.slice (.int .i64)) x0, .v (.int .i64) x1]
theorem spec_roYear.f.eq (x0 : List Int) (x1 : Int) : spec_roYear.f x0 x1 =
  (spec_roBorn.f x0).bind fun y1 =>
  if y1 = true then
    (spec_l1In.f x1 0 3000).bind fun y2 =>
    some (if true = true then y2 else false)
  else
    some false := by kernel_rfl
noncomputable def spec_NextJubilee.g : Gam := [(44, spec_roYear.sp), (36, spec_roIn.sp), (45, spec_roEvery.sp)]
theorem spec_NextJubilee.gok : GOk Try.prog spec_NextJubilee.g := (((GOk.nil _).cons spec_roEvery.ok).cons spec_roIn.ok).cons spec_roYear.ok
noncomputable def spec_NextJubilee.i : FI := ⟨Try.f22, body Try.f22, (.seq .nil (.seq (.cut [0, 1, 2, 17] [] .nil (.cond (.seq .nil .nil) .nil)) (.seq (.seq .nil (.blk (.loop [0, 2, 8] [] (.seq (.seq .nil (.cond .nil .nil)) (.seq (.blk (.seq .nil (.cond (.seq .nil .nil) .nil))) .nil))))) (.seq .nil .nil)))), [], [], [.res (.tmp 6) (.v (.int .i64)), .res (.tmp 7) (.v .bool)]⟩
noncomputable def spec_NextJubilee.sp : CSpec := mkSpec spec_NextJubilee.g T spec_NextJubilee.i
theorem spec_NextJubilee.ok : SpecOk Try.prog 22 spec_NextJubilee.sp := mkSpec_ok hmix spec_NextJubilee.gok tok spec_NextJubilee.i Try.func22 (by kernel_rfl) (by kernel_rfl) (by kernel_rfl) (by kernel_rfl)
noncomputable def spec_NextJubilee.f (x0 : List Int) (x1 : Int) (x2 : Int) : Option (Int × Bool) := run spec_NextJubilee.g T spec_NextJubilee.i [.v (.slice (.int .i64)) x0, .v (.int .i64) x1, .v (.int .i64) x2]
noncomputable def spec_NextJubilee.j0 (x0 : List Int) (x1 : Int) (x2 : Int) (x17 : Bool) : Option (Int × Bool) := runJ spec_NextJubilee.g T spec_NextJubilee.i [true, false, true] [(0, .val (.slice (.int .i64)) x0), (1, .val (.int .i64) x1), (2, .val (.int .i64) x2), (17, .val .bool x17)] []
noncomputable def spec_NextJubilee.l0 (x0 : List Int) (x2 : Int) (x8 : Int) : Option (Int × Bool) := runAt spec_NextJubilee.g T spec_NextJubilee.i [true, true, false, true, false] [(0, .val (.slice (.int .i64)) x0), (2, .val (.int .i64) x2), (8, .val (.int .i64) x8)] []
theorem spec_NextJubilee.f.eq (x0 : List Int) (x1 : Int) (x2 : Int) : spec_NextJubilee.f x0 x1 x2 =
  (spec_roYear.f x0 x1).bind fun y1 =>
  if (!y1) = true then
    spec_NextJubilee.j0 x0 x1 x2 true
  else
    (spec_roEvery.f x2).bind fun y6 =>
    spec_NextJubilee.j0 x0 x1 x2 (if false = true then true else !y6) := by kernel_rfl
theorem spec_NextJubilee.j0.eq (x0 : List Int) (x1 : Int) (x2 : Int) (x17 : Bool) : spec_NextJubilee.j0 x0 x1 x2 x17 =
  if x17 = true then
    some (0, false)
  else
    spec_NextJubilee.l0 x0 x2 (IntKind.i64.wrap (x1 + 1)) := (runJ_eq _ _ _ _ _ _).trans (by kernel_rfl)
theorem spec_NextJubilee.l0.eq (x0 : List Int) (x2 : Int) (x8 : Int) : spec_NextJubilee.l0 x0 x2 x8 =
  if (decide (x8 ≤ 3000)) = true then
    (spec_roIn.f x0 x8 x2).bind fun y2 =>
    if (decide ((y2.length : Int) > 0)) = true then
      some (x8, true)
    else
      spec_NextJubilee.l0 x0 x2 (IntKind.i64.wrap (x8 + 1))
  else
    some (0, false) := (runAt_loop _ _ _ _ _ _).trans (by kernel_rfl)
noncomputable def spec_JubileesIn.g : Gam := [(44, spec_roYear.sp), (45, spec_roEvery.sp), (36, spec_roIn.sp)]
theorem spec_JubileesIn.gok : GOk Try.prog spec_JubileesIn.g := (((GOk.nil _).cons spec_roIn.ok).cons spec_roEvery.ok).cons spec_roYear.ok
noncomputable def spec_JubileesIn.i : FI := ⟨Try.f23, body Try.f23, (.seq .nil (.seq (.seq .nil (.cond (.seq .nil .nil) .nil)) (.seq .nil .nil))), [], [], [.res (.tmp 6) (.own 3 (.int .i64)), .res (.tmp 7) (.v .bool)]⟩
noncomputable def spec_JubileesIn.sp : CSpec := mkSpec spec_JubileesIn.g T spec_JubileesIn.i
theorem spec_JubileesIn.ok : SpecOk Try.prog 23 spec_JubileesIn.sp := mkSpec_ok hmix spec_JubileesIn.gok tok spec_JubileesIn.i Try.func23 (by kernel_rfl) (by kernel_rfl) (by kernel_rfl) (by kernel_rfl)
noncomputable def spec_JubileesIn.f (x0 : List Int) (x1 : Int) (x2 : Int) : Option ((List Int) × Bool) := run spec_JubileesIn.g T spec_JubileesIn.i [.v (.slice (.int .i64)) x0, .v (.int .i64) x1, .v (.int .i64) x2]
theorem spec_JubileesIn.f.eq (x0 : List Int) (x1 : Int) (x2 : Int) : spec_JubileesIn.f x0 x1 x2 =
  (spec_roYear.f x0 x1).bind fun y1 =>
  if (!y1) = true then
    some ([], false)
  else
    (spec_roEvery.f x2).bind fun y2 =>
    if (if false = true then true else !y2) = true then
      some ([], false)
    else
      (spec_roIn.f x0 x1 x2).bind fun y4 =>
      some (y4, true) := by kernel_rfl
noncomputable def impl_OldestRound.g : Gam := [(17, impl_JubileesIn.sp)]
theorem impl_OldestRound.gok : GOk Try.prog impl_OldestRound.g := (GOk.nil _).cons impl_JubileesIn.ok
noncomputable def impl_OldestRound.i : FI := ⟨Try.f24, body Try.f24, (.seq .nil (.seq .nil (.seq (.cut [0, 1, 9, 27] [] .nil (.cond (.seq .nil .nil) .nil)) (.seq .nil (.seq (.seq .nil (.blk (.loop [0, 1, 9, 11, 31, 32, 33] [] (.seq .nil (.seq (.cond .nil .nil) (.seq (.blk (.seq .nil (.seq .nil (.cond .nil .nil)))) .nil)))))) (.seq .nil .nil)))))), [], [], [.res (.tmp 6) (.v (.int .i64)), .res (.tmp 7) (.v (.int .i64)), .res (.tmp 8) (.v .bool)]⟩
noncomputable def impl_OldestRound.sp : CSpec := mkSpec impl_OldestRound.g T impl_OldestRound.i
theorem impl_OldestRound.ok : SpecOk Try.prog 24 impl_OldestRound.sp := mkSpec_ok hmix impl_OldestRound.gok tok impl_OldestRound.i Try.func24 (by kernel_rfl) (by kernel_rfl) (by kernel_rfl) (by kernel_rfl)
noncomputable def impl_OldestRound.f (x0 : List Int) (x1 : Int) (x2 : Int) : Option (Int × Int × Bool) := run impl_OldestRound.g T impl_OldestRound.i [.v (.slice (.int .i64)) x0, .v (.int .i64) x1, .v (.int .i64) x2]
noncomputable def impl_OldestRound.j0 (x0 : List Int) (x1 : Int) (x9 : List Int) (x27 : Bool) : Option (Int × Int × Bool) := runJ impl_OldestRound.g T impl_OldestRound.i [true, true, false, true] [(0, .val (.slice (.int .i64)) x0), (1, .val (.int .i64) x1), (9, .own 3 (.int .i64) x9), (27, .val .bool x27)] []
noncomputable def impl_OldestRound.l0 (x0 : List Int) (x1 : Int) (x9 : List Int) (x11 : Int) (x32 : Int) (x33 : Int) : Option (Int × Int × Bool) := runAt impl_OldestRound.g T impl_OldestRound.i [true, true, true, true, false, true, false] [(0, .val (.slice (.int .i64)) x0), (1, .val (.int .i64) x1), (9, .own 3 (.int .i64) x9), (11, .val (.int .i64) x11), (31, .alias 9), (32, .val (.int .i64) x32), (33, .val (.int .i64) x33)] []
theorem impl_OldestRound.f.eq (x0 : List Int) (x1 : Int) (x2 : Int) : impl_OldestRound.f x0 x1 x2 =
  (impl_JubileesIn.f x0 x1 x2).bind fun y1 =>
  if (!y1.2) = true then
    impl_OldestRound.j0 x0 x1 y1.1 true
  else
    impl_OldestRound.j0 x0 x1 y1.1 (if false = true then true else (y1.1.length : Int) == 0) := by kernel_rfl
theorem impl_OldestRound.j0.eq (x0 : List Int) (x1 : Int) (x9 : List Int) (x27 : Bool) : impl_OldestRound.j0 x0 x1 x9 x27 =
  if x27 = true then
    some (0, 0, false)
  else
    (rdI x9 0).bind fun y1 =>
    impl_OldestRound.l0 x0 x1 x9 y1 (x9.length : Int) 0 := (runJ_eq _ _ _ _ _ _).trans (by kernel_rfl)
theorem impl_OldestRound.l0.eq (x0 : List Int) (x1 : Int) (x9 : List Int) (x11 : Int) (x32 : Int) (x33 : Int) : impl_OldestRound.l0 x0 x1 x9 x11 x32 x33 =
  if (decide (x33 < x32)) = true then
    (rdI x9 x33).bind fun y2 =>
    (rdI x0 y2).bind fun y3 =>
    (rdI x0 x11).bind fun y4 =>
    if (decide (y3 < y4)) = true then
      impl_OldestRound.l0 x0 x1 x9 y2 x32 (IntKind.i64.wrap (x33 + 1))
    else
      impl_OldestRound.l0 x0 x1 x9 x11 x32 (IntKind.i64.wrap (x33 + 1))
  else
    (rdI x0 x11).bind fun y8 =>
    some (x11, (IntKind.i64.wrap (x1 - y8)), true) := (runAt_loop _ _ _ _ _ _).trans (by kernel_rfl)
noncomputable def spec_OldestRound.g : Gam := [(44, spec_roYear.sp), (36, spec_roIn.sp), (45, spec_roEvery.sp)]
theorem spec_OldestRound.gok : GOk Try.prog spec_OldestRound.g := (((GOk.nil _).cons spec_roEvery.ok).cons spec_roIn.ok).cons spec_roYear.ok
noncomputable def spec_OldestRound.i : FI := ⟨Try.f25, body Try.f25, (.seq .nil (.seq (.cut [0, 1, 2, 22] [] .nil (.cond (.seq .nil .nil) .nil)) (.seq .nil (.seq (.seq .nil (.blk (.loop [0, 1, 9, 10, 26, 27, 28] [] (.seq .nil (.seq (.cond .nil .nil) (.seq (.blk (.seq .nil (.seq .nil (.seq .nil (.cond (.seq .nil .nil) .nil))))) .nil)))))) (.seq (.seq .nil (.cond (.seq .nil .nil) .nil)) (.seq .nil .nil)))))), [], [], [.res (.tmp 6) (.v (.int .i64)), .res (.tmp 7) (.v (.int .i64)), .res (.tmp 8) (.v .bool)]⟩
noncomputable def spec_OldestRound.sp : CSpec := mkSpec spec_OldestRound.g T spec_OldestRound.i
theorem spec_OldestRound.ok : SpecOk Try.prog 25 spec_OldestRound.sp := mkSpec_ok hmix spec_OldestRound.gok tok spec_OldestRound.i Try.func25 (by kernel_rfl) (by kernel_rfl) (by kernel_rfl) (by kernel_rfl)
noncomputable def spec_OldestRound.f (x0 : List Int) (x1 : Int) (x2 : Int) : Option (Int × Int × Bool) := run spec_OldestRound.g T spec_OldestRound.i [.v (.slice (.int .i64)) x0, .v (.int .i64) x1, .v (.int .i64) x2]
noncomputable def spec_OldestRound.j0 (x0 : List Int) (x1 : Int) (x2 : Int) (x22 : Bool) : Option (Int × Int × Bool) := runJ spec_OldestRound.g T spec_OldestRound.i [true, false, true] [(0, .val (.slice (.int .i64)) x0), (1, .val (.int .i64) x1), (2, .val (.int .i64) x2), (22, .val .bool x22)] []
noncomputable def spec_OldestRound.l0 (x0 : List Int) (x1 : Int) (x9 : Int) (x10 : Int) (x26 : List Int) (x27 : Int) (x28 : Int) : Option (Int × Int × Bool) := runAt spec_OldestRound.g T spec_OldestRound.i [true, true, true, false, true, false] [(0, .val (.slice (.int .i64)) x0), (1, .val (.int .i64) x1), (9, .val (.int .i64) x9), (10, .val (.int .i64) x10), (26, .own 3 (.int .i64) x26), (27, .val (.int .i64) x27), (28, .val (.int .i64) x28)] []
theorem spec_OldestRound.f.eq (x0 : List Int) (x1 : Int) (x2 : Int) : spec_OldestRound.f x0 x1 x2 =
  (spec_roYear.f x0 x1).bind fun y1 =>
  if (!y1) = true then
    spec_OldestRound.j0 x0 x1 x2 true
  else
    (spec_roEvery.f x2).bind fun y8 =>
    spec_OldestRound.j0 x0 x1 x2 (if false = true then true else !y8) := by kernel_rfl
theorem spec_OldestRound.j0.eq (x0 : List Int) (x1 : Int) (x2 : Int) (x22 : Bool) : spec_OldestRound.j0 x0 x1 x2 x22 =
  if x22 = true then
    some (0, 0, false)
  else
    (spec_roIn.f x0 x1 x2).bind fun y1 =>
    spec_OldestRound.l0 x0 x1 0 0 y1 (y1.length : Int) 0 := (runJ_eq _ _ _ _ _ _).trans (by kernel_rfl)
theorem spec_OldestRound.l0.eq (x0 : List Int) (x1 : Int) (x9 : Int) (x10 : Int) (x26 : List Int) (x27 : Int) (x28 : Int) : spec_OldestRound.l0 x0 x1 x9 x10 x26 x27 x28 =
  if (decide (x28 < x27)) = true then
    (rdI x26 x28).bind fun y2 =>
    (rdI x0 y2).bind fun y3 =>
    let y4 := IntKind.i64.wrap (x1 - y3)
    if (decide (y4 > x10)) = true then
      spec_OldestRound.l0 x0 x1 y2 y4 x26 x27 (IntKind.i64.wrap (x28 + 1))
    else
      spec_OldestRound.l0 x0 x1 x9 x10 x26 x27 (IntKind.i64.wrap (x28 + 1))
  else
    if (x10 == 0) = true then
      some (0, 0, false)
    else
      some (x9, x10, true) := (runAt_loop _ _ _ _ _ _).trans (by kernel_rfl)
noncomputable def spec_DrawTogetherJubilees.g : Gam := [(46, spec_l1Cur_born.sp), (47, spec_l1Cur_jubilee.sp)]
theorem spec_DrawTogetherJubilees.gok : GOk Try.prog spec_DrawTogetherJubilees.g := ((GOk.nil _).cons spec_l1Cur_jubilee.ok).cons spec_l1Cur_born.ok
noncomputable def spec_DrawTogetherJubilees.i : FI := ⟨Try.f26, body Try.f26, (.seq .nil (.seq .nil (.seq .nil .nil))), [], [], [.res (.tmp 2) (.own 3 (.int .i64)), .res (.tmp 3) (.v (.int .i64))]⟩
noncomputable def spec_DrawTogetherJubilees.sp : CSpec := mkSpec spec_DrawTogetherJubilees.g T spec_DrawTogetherJubilees.i
theorem spec_DrawTogetherJubilees.ok : SpecOk Try.prog 26 spec_DrawTogetherJubilees.sp := mkSpec_ok hmix spec_DrawTogetherJubilees.gok tok spec_DrawTogetherJubilees.i Try.func26 (by kernel_rfl) (by kernel_rfl) (by kernel_rfl) (by kernel_rfl)
noncomputable def spec_DrawTogetherJubilees.f (x0 : List Int) : Option ((List Int) × Int) := run spec_DrawTogetherJubilees.g T spec_DrawTogetherJubilees.i [.v (.slice (.int .u8)) x0]
theorem spec_DrawTogetherJubilees.f.eq (x0 : List Int) : spec_DrawTogetherJubilees.f x0 =
  (spec_l1Cur_born.f x0 0 0).bind fun y1 =>
  (spec_l1Cur_jubilee.f y1.2.1 y1.2.2.1 y1.2.2.2).bind fun y2 =>
  some (y1.1, y2.1) := by kernel_rfl
noncomputable def impl_TogetherJubilees.g : Gam := [(15, impl_AreBirths.sp), (42, impl_jubilees.sp), (41, impl_isEvery.sp)]
theorem impl_TogetherJubilees.gok : GOk Try.prog impl_TogetherJubilees.g := (((GOk.nil _).cons impl_isEvery.ok).cons impl_jubilees.ok).cons impl_AreBirths.ok
noncomputable def impl_TogetherJubilees.i : FI := ⟨Try.f27, body Try.f27, (.seq .nil (.seq (.cut [0, 1, 15] [] .nil (.cond (.seq .nil .nil) .nil)) (.seq .nil (.seq (.seq .nil (.blk (.loop [0, 1, 6, 17] [] (.seq .nil (.seq (.cond .nil .nil) (.seq (.blk (.seq .nil (.seq .nil (.cond .nil .nil)))) .nil)))))) (.seq .nil .nil))))), [], [], [.res (.tmp 4) (.own 3 (.int .i64)), .res (.tmp 5) (.v .bool)]⟩
noncomputable def impl_TogetherJubilees.sp : CSpec := mkSpec impl_TogetherJubilees.g T impl_TogetherJubilees.i
theorem impl_TogetherJubilees.ok : SpecOk Try.prog 27 impl_TogetherJubilees.sp := mkSpec_ok hmix impl_TogetherJubilees.gok tok impl_TogetherJubilees.i Try.func27 (by kernel_rfl) (by kernel_rfl) (by kernel_rfl) (by kernel_rfl)
noncomputable def impl_TogetherJubilees.f (x0 : List Int) (x1 : Int) : Option ((List Int) × Bool) := run impl_TogetherJubilees.g T impl_TogetherJubilees.i [.v (.slice (.int .i64)) x0, .v (.int .i64) x1]
noncomputable def impl_TogetherJubilees.j0 (x0 : List Int) (x1 : Int) (x15 : Bool) : Option ((List Int) × Bool) := runJ impl_TogetherJubilees.g T impl_TogetherJubilees.i [true, false, true] [(0, .val (.slice (.int .i64)) x0), (1, .val (.int .i64) x1), (15, .val .bool x15)] []
noncomputable def impl_TogetherJubilees.l0 (x0 : List Int) (x1 : Int) (x6 : List Int) (x17 : Int) : Option ((List Int) × Bool) := runAt impl_TogetherJubilees.g T impl_TogetherJubilees.i [true, true, true, false, true, false] [(0, .val (.slice (.int .i64)) x0), (1, .val (.int .i64) x1), (6, .own 3 (.int .i64) x6), (17, .val (.int .i64) x17)] []
theorem impl_TogetherJubilees.f.eq (x0 : List Int) (x1 : Int) : impl_TogetherJubilees.f x0 x1 =
  (impl_AreBirths.f x0).bind fun y1 =>
  if (!y1) = true then
    impl_TogetherJubilees.j0 x0 x1 true
  else
    (impl_isEvery.f x1).bind fun y8 =>
    impl_TogetherJubilees.j0 x0 x1 (if false = true then true else !y8) := by kernel_rfl
theorem impl_TogetherJubilees.j0.eq (x0 : List Int) (x1 : Int) (x15 : Bool) : impl_TogetherJubilees.j0 x0 x1 x15 =
  if x15 = true then
    some ([], false)
  else
    impl_TogetherJubilees.l0 x0 x1 [] 0 := (runJ_eq _ _ _ _ _ _).trans (by kernel_rfl)
theorem impl_TogetherJubilees.l0.eq (x0 : List Int) (x1 : Int) (x6 : List Int) (x17 : Int) : impl_TogetherJubilees.l0 x0 x1 x6 x17 =
  if (decide (x17 < 3001)) = true then
    (impl_jubilees.f x0 x17 x1).bind fun y2 =>
    if ((y2.length : Int) == (x0.length : Int)) = true then
      (catI (appMax 8) x6 [x17]).bind fun y5 =>
      impl_TogetherJubilees.l0 x0 x1 y5 (IntKind.i64.wrap (x17 + 1))
    else
      impl_TogetherJubilees.l0 x0 x1 x6 (IntKind.i64.wrap (x17 + 1))
  else
    some (x6, true) := (runAt_loop _ _ _ _ _ _).trans (by kernel_rfl)
noncomputable def spec_TogetherJubilees.g : Gam := [(39, spec_roBorn.sp), (36, spec_roIn.sp), (45, spec_roEvery.sp)]
theorem spec_TogetherJubilees.gok : GOk Try.prog spec_TogetherJubilees.g := (((GOk.nil _).cons spec_roEvery.ok).cons spec_roIn.ok).cons spec_roBorn.ok
noncomputable def spec_TogetherJubilees.i : FI := ⟨Try.f28, body Try.f28, (.seq .nil (.seq (.cut [0, 1, 15] [] .nil (.cond (.seq .nil .nil) .nil)) (.seq .nil (.seq (.seq .nil (.blk (.loop [0, 1, 6, 7] [] (.seq (.cut [0, 1, 6, 7, 29] [] .nil (.cond .nil .nil)) (.seq (.blk (.seq .nil (.cond .nil .nil))) .nil))))) (.seq .nil .nil))))), [], [], [.res (.tmp 4) (.own 3 (.int .i64)), .res (.tmp 5) (.v .bool)]⟩
noncomputable def spec_TogetherJubilees.sp : CSpec := mkSpec spec_TogetherJubilees.g T spec_TogetherJubilees.i
theorem spec_TogetherJubilees.ok : SpecOk Try.prog 28 spec_TogetherJubilees.sp := mkSpec_ok hmix spec_TogetherJubilees.gok tok spec_TogetherJubilees.i Try.func28 (by kernel_rfl) (by kernel_rfl) (by kernel_rfl) (by kernel_rfl)
noncomputable def spec_TogetherJubilees.f (x0 : List Int) (x1 : Int) : Option ((List Int) × Bool) := run spec_TogetherJubilees.g T spec_TogetherJubilees.i [.v (.slice (.int .i64)) x0, .v (.int .i64) x1]
noncomputable def spec_TogetherJubilees.j0 (x0 : List Int) (x1 : Int) (x15 : Bool) : Option ((List Int) × Bool) := runJ spec_TogetherJubilees.g T spec_TogetherJubilees.i [true, false, true] [(0, .val (.slice (.int .i64)) x0), (1, .val (.int .i64) x1), (15, .val .bool x15)] []
noncomputable def spec_TogetherJubilees.l0 (x0 : List Int) (x1 : Int) (x6 : List Int) (x7 : Int) : Option ((List Int) × Bool) := runAt spec_TogetherJubilees.g T spec_TogetherJubilees.i [true, true, true, false, true, false] [(0, .val (.slice (.int .i64)) x0), (1, .val (.int .i64) x1), (6, .own 3 (.int .i64) x6), (7, .val (.int .i64) x7)] []
noncomputable def spec_TogetherJubilees.j1 (x0 : List Int) (x1 : Int) (x6 : List Int) (x7 : Int) (x29 : Bool) : Option ((List Int) × Bool) := runJ spec_TogetherJubilees.g T spec_TogetherJubilees.i [true, true, true, false, true, false, false, false, true] [(0, .val (.slice (.int .i64)) x0), (1, .val (.int .i64) x1), (6, .own 3 (.int .i64) x6), (7, .val (.int .i64) x7), (29, .val .bool x29)] []
theorem spec_TogetherJubilees.f.eq (x0 : List Int) (x1 : Int) : spec_TogetherJubilees.f x0 x1 =
  (spec_roBorn.f x0).bind fun y1 =>
  if (!y1) = true then
    spec_TogetherJubilees.j0 x0 x1 true
  else
    (spec_roEvery.f x1).bind fun y7 =>
    spec_TogetherJubilees.j0 x0 x1 (if false = true then true else !y7) := by kernel_rfl
theorem spec_TogetherJubilees.j0.eq (x0 : List Int) (x1 : Int) (x15 : Bool) : spec_TogetherJubilees.j0 x0 x1 x15 =
  if x15 = true then
    some ([], false)
  else
    (rdI x0 0).bind fun y1 =>
    spec_TogetherJubilees.l0 x0 x1 [] (IntKind.i64.wrap (y1 + 1)) := (runJ_eq _ _ _ _ _ _).trans (by kernel_rfl)
theorem spec_TogetherJubilees.l0.eq (x0 : List Int) (x1 : Int) (x6 : List Int) (x7 : Int) : spec_TogetherJubilees.l0 x0 x1 x6 x7 =
  (rdI x0 0).bind fun y1 =>
  if (decide (x7 ≤ (IntKind.i64.wrap (y1 + 120)))) = true then
    spec_TogetherJubilees.j1 x0 x1 x6 x7 (if true = true then (decide (x7 ≤ 3000)) else false)
  else
    spec_TogetherJubilees.j1 x0 x1 x6 x7 false := (runAt_loop _ _ _ _ _ _).trans (by kernel_rfl)
theorem spec_TogetherJubilees.j1.eq (x0 : List Int) (x1 : Int) (x6 : List Int) (x7 : Int) (x29 : Bool) : spec_TogetherJubilees.j1 x0 x1 x6 x7 x29 =
  if x29 = true then
    (spec_roIn.f x0 x7 x1).bind fun y1 =>
    if ((y1.length : Int) == (x0.length : Int)) = true then
      (catI (appMax 8) x6 [x7]).bind fun y4 =>
      spec_TogetherJubilees.l0 x0 x1 y4 (IntKind.i64.wrap (x7 + 1))
    else
      spec_TogetherJubilees.l0 x0 x1 x6 (IntKind.i64.wrap (x7 + 1))
  else
    some (x6, true) := (runJ_eq _ _ _ _ _ _).trans (by kernel_rfl)
noncomputable def spec_DrawAnniversaries.g : Gam := [(48, spec_l1Cur_span.sp), (49, spec_l1Cur_year.sp), (47, spec_l1Cur_jubilee.sp)]
theorem spec_DrawAnniversaries.gok : GOk Try.prog spec_DrawAnniversaries.g := (((GOk.nil _).cons spec_l1Cur_jubilee.ok).cons spec_l1Cur_year.ok).cons spec_l1Cur_span.ok
noncomputable def spec_DrawAnniversaries.i : FI := ⟨Try.f29, body Try.f29, (.seq .nil (.seq .nil (.seq .nil (.seq .nil .nil)))), [], [], [.res (.tmp 2) (.v (.int .i64)), .res (.tmp 3) (.v (.int .i64)), .res (.tmp 4) (.v (.int .i64)), .res (.tmp 5) (.v (.int .i64))]⟩
noncomputable def spec_DrawAnniversaries.sp : CSpec := mkSpec spec_DrawAnniversaries.g T spec_DrawAnniversaries.i
theorem spec_DrawAnniversaries.ok : SpecOk Try.prog 29 spec_DrawAnniversaries.sp := mkSpec_ok hmix spec_DrawAnniversaries.gok tok spec_DrawAnniversaries.i Try.func29 (by kernel_rfl) (by kernel_rfl) (by kernel_rfl) (by kernel_rfl)
noncomputable def spec_DrawAnniversaries.f (x0 : List Int) : Option (Int × Int × Int × Int) := run spec_DrawAnniversaries.g T spec_DrawAnniversaries.i [.v (.slice (.int .u8)) x0]
theorem spec_DrawAnniversaries.f.eq (x0 : List Int) : spec_DrawAnniversaries.f x0 =
  (spec_l1Cur_span.f x0 0 0).bind fun y1 =>
  (spec_l1Cur_year.f y1.2.2.1 y1.2.2.2.1 y1.2.2.2.2).bind fun y2 =>
  (spec_l1Cur_jubilee.f y2.2.1 y2.2.2.1 y2.2.2.2).bind fun y3 =>
  some (y2.1, y1.1, y1.2.1, y3.1) := by kernel_rfl
noncomputable def impl_Anniversaries.g : Gam := [(40, impl_isYear.sp), (51, impl_isRound.sp), (50, impl_isSpan.sp), (41, impl_isEvery.sp)]
theorem impl_Anniversaries.gok : GOk Try.prog impl_Anniversaries.g := ((((GOk.nil _).cons impl_isEvery.ok).cons impl_isSpan.ok).cons impl_isRound.ok).cons impl_isYear.ok
noncomputable def impl_Anniversaries.i : FI := ⟨Try.f30, body Try.f30, (.seq .nil (.seq (.cut [0, 1, 2, 3, 25] [] .nil (.cond (.seq .nil .nil) .nil)) (.seq .nil (.seq (.seq .nil (.blk (.loop [0, 2, 3, 10, 11] [] (.seq (.seq .nil (.cond .nil .nil)) (.seq (.blk (.seq .nil (.cond .nil .nil))) .nil))))) (.seq .nil .nil))))), [], [], [.res (.tmp 8) (.own 3 (.int .i64)), .res (.tmp 9) (.v .bool)]⟩
noncomputable def impl_Anniversaries.sp : CSpec := mkSpec impl_Anniversaries.g T impl_Anniversaries.i
theorem impl_Anniversaries.ok : SpecOk Try.prog 30 impl_Anniversaries.sp := mkSpec_ok hmix impl_Anniversaries.gok tok impl_Anniversaries.i Try.func30 (by kernel_rfl) (by kernel_rfl) (by kernel_rfl) (by kernel_rfl)
noncomputable def impl_Anniversaries.f (x0 : Int) (x1 : Int) (x2 : Int) (x3 : Int) : Option ((List Int) × Bool) := run impl_Anniversaries.g T impl_Anniversaries.i [.v (.int .i64) x0, .v (.int .i64) x1, .v (.int .i64) x2, .v (.int .i64) x3]
noncomputable def impl_Anniversaries.j0 (x0 : Int) (x1 : Int) (x2 : Int) (x3 : Int) (x25 : Bool) : Option ((List Int) × Bool) := runJ impl_Anniversaries.g T impl_Anniversaries.i [true, false, true] [(0, .val (.int .i64) x0), (1, .val (.int .i64) x1), (2, .val (.int .i64) x2), (3, .val (.int .i64) x3), (25, .val .bool x25)] []
noncomputable def impl_Anniversaries.l0 (x0 : Int) (x2 : Int) (x3 : Int) (x10 : List Int) (x11 : Int) : Option ((List Int) × Bool) := runAt impl_Anniversaries.g T impl_Anniversaries.i [true, true, true, false, true, false] [(0, .val (.int .i64) x0), (2, .val (.int .i64) x2), (3, .val (.int .i64) x3), (10, .own 3 (.int .i64) x10), (11, .val (.int .i64) x11)] []
theorem impl_Anniversaries.f.eq (x0 : Int) (x1 : Int) (x2 : Int) (x3 : Int) : impl_Anniversaries.f x0 x1 x2 x3 =
  (impl_isYear.f x0).bind fun y1 =>
  if (!y1) = true then
    impl_Anniversaries.j0 x0 x1 x2 x3 true
  else
    (impl_isSpan.f x1 x2).bind fun y7 =>
    if (if false = true then true else !y7) = true then
      impl_Anniversaries.j0 x0 x1 x2 x3 true
    else
      (impl_isEvery.f x3).bind fun y9 =>
      impl_Anniversaries.j0 x0 x1 x2 x3 (if false = true then true else !y9) := by kernel_rfl
theorem impl_Anniversaries.j0.eq (x0 : Int) (x1 : Int) (x2 : Int) (x3 : Int) (x25 : Bool) : impl_Anniversaries.j0 x0 x1 x2 x3 x25 =
  if x25 = true then
    some ([], false)
  else
    impl_Anniversaries.l0 x0 x2 x3 [] x1 := (runJ_eq _ _ _ _ _ _).trans (by kernel_rfl)
theorem impl_Anniversaries.l0.eq (x0 : Int) (x2 : Int) (x3 : Int) (x10 : List Int) (x11 : Int) : impl_Anniversaries.l0 x0 x2 x3 x10 x11 =
  if (decide (x11 ≤ x2)) = true then
    (impl_isRound.f (IntKind.i64.wrap (x11 - x0)) x3).bind fun y3 =>
    if y3 = true then
      (catI (appMax 8) x10 [x11]).bind fun y4 =>
      impl_Anniversaries.l0 x0 x2 x3 y4 (IntKind.i64.wrap (x11 + 1))
    else
      impl_Anniversaries.l0 x0 x2 x3 x10 (IntKind.i64.wrap (x11 + 1))
  else
    some (x10, true) := (runAt_loop _ _ _ _ _ _).trans (by kernel_rfl)
noncomputable def spec_Anniversaries.g : Gam := [(52, spec_l1In.sp), (54, spec_roRound.sp), (53, spec_roSpan.sp), (45, spec_roEvery.sp)]
theorem spec_Anniversaries.gok : GOk Try.prog spec_Anniversaries.g := ((((GOk.nil _).cons spec_roEvery.ok).cons spec_roSpan.ok).cons spec_roRound.ok).cons spec_l1In.ok
noncomputable def spec_Anniversaries.i : FI := ⟨Try.f31, body Try.f31, (.seq .nil (.seq (.cut [0, 1, 2, 3, 25] [] .nil (.cond (.seq .nil .nil) .nil)) (.seq .nil (.seq (.seq .nil (.blk (.loop [0, 2, 3, 10, 11] [] (.seq (.seq .nil (.cond .nil .nil)) (.seq (.blk (.seq .nil (.cond .nil .nil))) .nil))))) (.seq .nil .nil))))), [], [], [.res (.tmp 8) (.own 3 (.int .i64)), .res (.tmp 9) (.v .bool)]⟩
noncomputable def spec_Anniversaries.sp : CSpec := mkSpec spec_Anniversaries.g T spec_Anniversaries.i
theorem spec_Anniversaries.ok : SpecOk Try.prog 31 spec_Anniversaries.sp := mkSpec_ok hmix spec_Anniversaries.gok tok spec_Anniversaries.i Try.func31 (by kernel_rfl) (by kernel_rfl) (by kernel_rfl) (by kernel_rfl)
noncomputable def spec_Anniversaries.f (x0 : Int) (x1 : Int) (x2 : Int) (x3 : Int) : Option ((List Int) × Bool) := run spec_Anniversaries.g T spec_Anniversaries.i [.v (.int .i64) x0, .v (.int .i64) x1, .v (.int .i64) x2, .v (.int .i64) x3]
noncomputable def spec_Anniversaries.j0 (x0 : Int) (x1 : Int) (x2 : Int) (x3 : Int) (x25 : Bool) : Option ((List Int) × Bool) := runJ spec_Anniversaries.g T spec_Anniversaries.i [true, false, true] [(0, .val (.int .i64) x0), (1, .val (.int .i64) x1), (2, .val (.int .i64) x2), (3, .val (.int .i64) x3), (25, .val .bool x25)] []
noncomputable def spec_Anniversaries.l0 (x0 : Int) (x2 : Int) (x3 : Int) (x10 : List Int) (x11 : Int) : Option ((List Int) × Bool) := runAt spec_Anniversaries.g T spec_Anniversaries.i [true, true, true, false, true, false] [(0, .val (.int .i64) x0), (2, .val (.int .i64) x2), (3, .val (.int .i64) x3), (10, .own 3 (.int .i64) x10), (11, .val (.int .i64) x11)] []
theorem spec_Anniversaries.f.eq (x0 : Int) (x1 : Int) (x2 : Int) (x3 : Int) : spec_Anniversaries.f x0 x1 x2 x3 =
  (spec_l1In.f x0 0 3000).bind fun y1 =>
  if (!y1) = true then
    spec_Anniversaries.j0 x0 x1 x2 x3 true
  else
    (spec_roSpan.f x1 x2).bind fun y7 =>
    if (if false = true then true else !y7) = true then
      spec_Anniversaries.j0 x0 x1 x2 x3 true
    else
      (spec_roEvery.f x3).bind fun y9 =>
      spec_Anniversaries.j0 x0 x1 x2 x3 (if false = true then true else !y9) := by kernel_rfl
theorem spec_Anniversaries.j0.eq (x0 : Int) (x1 : Int) (x2 : Int) (x3 : Int) (x25 : Bool) : spec_Anniversaries.j0 x0 x1 x2 x3 x25 =
  if x25 = true then
    some ([], false)
  else
    spec_Anniversaries.l0 x0 x2 x3 [] x1 := (runJ_eq _ _ _ _ _ _).trans (by kernel_rfl)
theorem spec_Anniversaries.l0.eq (x0 : Int) (x2 : Int) (x3 : Int) (x10 : List Int) (x11 : Int) : spec_Anniversaries.l0 x0 x2 x3 x10 x11 =
  if (decide (x11 ≤ x2)) = true then
    (spec_roRound.f (IntKind.i64.wrap (x11 - x0)) x3).bind fun y3 =>
    if y3 = true then
      (catI (appMax 8) x10 [x11]).bind fun y4 =>
      spec_Anniversaries.l0 x0 x2 x3 y4 (IntKind.i64.wrap (x11 + 1))
    else
      spec_Anniversaries.l0 x0 x2 x3 x10 (IntKind.i64.wrap (x11 + 1))
  else
    some (x10, true) := (runAt_loop _ _ _ _ _ _).trans (by kernel_rfl)
noncomputable def laws_qHas.g : Gam := []
theorem laws_qHas.gok : GOk Try.prog laws_qHas.g := GOk.nil _
noncomputable def laws_qHas.i : FI := ⟨Try.f32, body Try.f32, (.seq .nil (.seq (.seq .nil (.blk (.loop [1, 7, 8, 9] [] (.seq .nil (.seq (.cond .nil .nil) (.seq (.blk (.seq .nil (.seq .nil (.cond (.seq .nil .nil) .nil)))) .nil)))))) (.seq .nil .nil))), [], [], [.res (.tmp 4) (.v .bool)]⟩
noncomputable def laws_qHas.sp : CSpec := mkSpec laws_qHas.g T laws_qHas.i
theorem laws_qHas.ok : SpecOk Try.prog 32 laws_qHas.sp := mkSpec_ok hmix laws_qHas.gok tok laws_qHas.i Try.func32 (by kernel_rfl) (by kernel_rfl) (by kernel_rfl) (by kernel_rfl)
noncomputable def laws_qHas.f (x0 : List Int) (x1 : Int) : Option (Bool) := run laws_qHas.g T laws_qHas.i [.v (.slice (.int .i64)) x0, .v (.int .i64) x1]
noncomputable def laws_qHas.l0 (x1 : Int) (x7 : List Int) (x8 : Int) (x9 : Int) : Option (Bool) := runAt laws_qHas.g T laws_qHas.i [true, false, true, false] [(1, .val (.int .i64) x1), (7, .val (.slice (.int .i64)) x7), (8, .val (.int .i64) x8), (9, .val (.int .i64) x9)] []
theorem laws_qHas.f.eq (x0 : List Int) (x1 : Int) : laws_qHas.f x0 x1 =
  laws_qHas.l0 x1 x0 (x0.length : Int) 0 := by kernel_rfl
theorem laws_qHas.l0.eq (x1 : Int) (x7 : List Int) (x8 : Int) (x9 : Int) : laws_qHas.l0 x1 x7 x8 x9 =
  if (decide (x9 < x8)) = true then
    (rdI x7 x9).bind fun y2 =>
    if (y2 == x1) = true then
      some true
    else
      laws_qHas.l0 x1 x7 x8 (IntKind.i64.wrap (x9 + 1))
  else
    some false := (runAt_loop _ _ _ _ _ _).trans (by kernel_rfl)
noncomputable def laws_FnJubileesCome.g : Gam := [(4, laws_big.sp), (5, spec_DrawCalendarOf.sp), (6, impl_CalendarOf.sp), (7, spec_CalendarOf.sp), (8, impl_CountJubilees.sp), (9, spec_CountJubilees.sp), (10, impl_MostJubilees.sp), (11, spec_MostJubilees.sp), (12, impl_LongestQuiet.sp), (13, spec_LongestQuiet.sp), (17, impl_JubileesIn.sp), (19, laws_qSame.sp), (18, laws_qRises.sp), (20, spec_DrawNextJubilee.sp), (21, impl_NextJubilee.sp), (22, spec_NextJubilee.sp), (23, spec_JubileesIn.sp), (24, impl_OldestRound.sp), (25, spec_OldestRound.sp), (26, spec_DrawTogetherJubilees.sp), (27, impl_TogetherJubilees.sp), (28, spec_TogetherJubilees.sp), (29, spec_DrawAnniversaries.sp), (30, impl_Anniversaries.sp), (31, spec_Anniversaries.sp), (32, laws_qHas.sp), (14, laws_qRows.sp), (15, impl_AreBirths.sp), (16, spec_AreBirths.sp)]
theorem laws_FnJubileesCome.gok : GOk Try.prog laws_FnJubileesCome.g := (((((((((((((((((((((((((((((GOk.nil _).cons spec_AreBirths.ok).cons impl_AreBirths.ok).cons laws_qRows.ok).cons laws_qHas.ok).cons spec_Anniversaries.ok).cons impl_Anniversaries.ok).cons spec_DrawAnniversaries.ok).cons spec_TogetherJubilees.ok).cons impl_TogetherJubilees.ok).cons spec_DrawTogetherJubilees.ok).cons spec_OldestRound.ok).cons impl_OldestRound.ok).cons spec_JubileesIn.ok).cons spec_NextJubilee.ok).cons impl_NextJubilee.ok).cons spec_DrawNextJubilee.ok).cons laws_qRises.ok).cons laws_qSame.ok).cons impl_JubileesIn.ok).cons spec_LongestQuiet.ok).cons impl_LongestQuiet.ok).cons spec_MostJubilees.ok).cons impl_MostJubilees.ok).cons spec_CountJubilees.ok).cons impl_CountJubilees.ok).cons spec_CalendarOf.ok).cons impl_CalendarOf.ok).cons spec_DrawCalendarOf.ok).cons laws_big.ok
noncomputable def laws_FnJubileesCome.i : FI := ⟨Try.f3, body Try.f3, (.seq .nil (.seq (.seq .nil (.cond (.seq .nil .nil) .nil)) (.seq .nil (.seq .nil (.seq .nil (.seq .nil (.seq .nil (.seq .nil (.seq .nil (.seq .nil (.seq .nil (.seq (.cut [1, 5, 6, 7, 8, 9, 10, 13, 17, 18, 23, 24, 25, 248] [] .nil (.cond (.seq .nil .nil) .nil)) (.cut [1] [] (.seq .nil (.cond (.seq .nil (.seq (.seq .nil (.blk (.loop [1, 5, 6, 7, 8, 9, 13, 17, 18, 23, 24, 25, 29, 30, 31, 32] [] (.seq (.seq .nil (.cond .nil .nil)) (.seq (.blk (.seq .nil (.seq (.cut [1, 5, 6, 7, 8, 9, 13, 17, 18, 23, 24, 25, 29, 30, 31, 32, 33, 297] [] .nil (.cond (.seq .nil .nil) .nil)) (.seq .nil (.seq .nil (.seq (.seq .nil (.cond (.seq (.cut [1, 5, 6, 7, 8, 9, 13, 17, 18, 23, 24, 25, 29, 30, 32, 341] [] .nil (.cond (.seq .nil .nil) .nil)) (.seq .nil .nil)) .nil)) (.seq .nil (.cond (.seq .nil .nil) .nil)))))))) .nil))))) (.seq (.cut [1, 5, 6, 7, 8, 23, 24, 25, 372] [] .nil (.cond (.seq .nil .nil) .nil)) (.seq .nil (.cond (.seq .nil (.blk (.loop [1, 5, 6, 7, 8, 23, 24, 35] [] (.seq (.seq .nil (.cond .nil .nil)) (.seq (.blk (.seq .nil (.seq .nil (.cond (.seq .nil .nil) .nil)))) .nil))))) .nil))))) .nil)) (.seq .nil (.seq .nil (.seq .nil (.seq .nil (.seq .nil (.seq .nil (.seq .nil (.seq .nil (.seq .nil (.seq .nil (.seq .nil (.seq .nil (.seq .nil (.seq (.cut [38, 39, 40, 41, 42, 45, 46, 49, 50, 51, 55, 56, 57, 58, 61, 62, 63, 64, 65, 66, 568] [] .nil (.cond (.seq .nil .nil) .nil)) (.cut [38, 39, 40, 41, 42, 45, 49, 50, 51, 55, 56, 57, 58, 61, 62, 63, 64, 65, 66] [] (.seq .nil (.cond (.seq .nil (.blk (.loop [38, 39, 40, 41, 42, 45, 49, 50, 51, 55, 56, 57, 58, 61, 62, 63, 64, 65, 66, 570, 571, 572] [] (.seq .nil (.seq (.cond .nil .nil) (.seq (.blk (.seq .nil (.seq .nil (.seq .nil (.cond (.seq .nil .nil) .nil))))) .nil)))))) .nil)) (.cut [38, 39, 45, 49, 50, 51, 55, 56, 57, 58, 61, 62, 63, 64, 65, 66] [] (.seq .nil (.cond (.seq (.seq .nil (.cond (.seq .nil .nil) .nil)) (.seq .nil (.blk (.loop [38, 39, 40, 41, 45, 49, 50, 51, 55, 56, 57, 58, 61, 62, 63, 64, 65, 66, 72] [] (.seq (.cut [38, 39, 40, 41, 45, 49, 50, 51, 55, 56, 57, 58, 61, 62, 63, 64, 65, 66, 72, 611] [] .nil (.cond .nil .nil)) (.seq (.blk (.seq .nil (.seq .nil (.cond (.seq .nil .nil) .nil)))) .nil)))))) .nil)) (.cut [55, 56, 57, 58, 61, 62, 63, 64, 65, 66] [] (.seq .nil (.cond (.seq (.cut [38, 39, 45, 49, 50, 55, 56, 57, 58, 61, 62, 63, 64, 65, 66, 646] [] .nil (.cond (.seq .nil .nil) .nil)) (.seq .nil (.blk (.loop [38, 39, 45, 49, 50, 55, 56, 57, 58, 61, 62, 63, 64, 65, 66, 647, 648, 649] [] (.seq .nil (.seq (.cond .nil .nil) (.seq (.blk (.seq .nil (.seq .nil (.seq .nil (.cond (.seq .nil .nil) .nil))))) .nil))))))) .nil)) (.cut [61, 62, 63, 64, 65, 66] [] (.seq .nil (.cond (.seq (.seq .nil (.cond (.seq .nil .nil) .nil)) (.seq .nil (.blk (.loop [55, 56, 57, 61, 62, 63, 64, 65, 66, 677, 678, 679] [] (.seq .nil (.seq (.cond .nil .nil) (.seq (.blk (.seq .nil (.seq .nil (.seq .nil (.cond (.seq .nil .nil) .nil))))) .nil))))))) .nil)) (.seq (.seq .nil (.cond (.seq .nil (.blk (.loop [61, 63, 64, 65, 82] [] (.seq (.seq .nil (.cond .nil .nil)) (.seq (.blk (.seq .nil (.cond (.seq .nil .nil) .nil))) .nil))))) .nil)) (.seq .nil .nil))))))))))))))))))))))))))))))))), [], [], [.res (.tmp 4) (.v .bool)]⟩
noncomputable def laws_FnJubileesCome.sp : CSpec := mkSpec laws_FnJubileesCome.g T laws_FnJubileesCome.i
theorem laws_FnJubileesCome.ok : SpecOk Try.prog 3 laws_FnJubileesCome.sp := mkSpec_ok hmix laws_FnJubileesCome.gok tok laws_FnJubileesCome.i Try.func3 (by kernel_rfl) (by kernel_rfl) (by kernel_rfl) (by kernel_rfl)
noncomputable def laws_FnJubileesCome.f (x0 : List Int) (x1 : List Int) : Option (Bool) := run laws_FnJubileesCome.g T laws_FnJubileesCome.i [.v (.slice (.int .u8)) x0, .v (.slice (.int .u8)) x1]
noncomputable def laws_FnJubileesCome.j0 (x1 : List Int) (x5 : List Int) (x6 : Int) (x7 : Int) (x8 : Int) (x9 : List (List Int)) (x10 : Bool) (x13 : Int) (x17 : Int) (x18 : Int) (x23 : Int) (x24 : Int) (x25 : Bool) (x248 : Bool) : Option (Bool) := runJ laws_FnJubileesCome.g T laws_FnJubileesCome.i [true, true, true, true, true, true, true, true, true, true, true, false, true] [(1, .val (.slice (.int .u8)) x1), (5, .val (.slice (.int .i64)) x5), (6, .val (.int .i64) x6), (7, .val (.int .i64) x7), (8, .val (.int .i64) x8), (9, .own 24 (.slice (.int .i64)) x9), (10, .val .bool x10), (13, .val (.int .i64) x13), (17, .val (.int .i64) x17), (18, .val (.int .i64) x18), (23, .val (.int .i64) x23), (24, .val (.int .i64) x24), (25, .val .bool x25), (248, .val .bool x248)] []
noncomputable def laws_FnJubileesCome.l0 (x1 : List Int) (x5 : List Int) (x6 : Int) (x7 : Int) (x8 : Int) (x9 : List (List Int)) (x13 : Int) (x17 : Int) (x18 : Int) (x23 : Int) (x24 : Int) (x25 : Bool) (x29 : Int) (x30 : Int) (x31 : Int) (x32 : Int) : Option (Bool) := runAt laws_FnJubileesCome.g T laws_FnJubileesCome.i [true, true, true, true, true, true, true, true, true, true, true, true, false, true, false, true, false, true, false] [(1, .val (.slice (.int .u8)) x1), (5, .val (.slice (.int .i64)) x5), (6, .val (.int .i64) x6), (7, .val (.int .i64) x7), (8, .val (.int .i64) x8), (9, .own 24 (.slice (.int .i64)) x9), (13, .val (.int .i64) x13), (17, .val (.int .i64) x17), (18, .val (.int .i64) x18), (23, .val (.int .i64) x23), (24, .val (.int .i64) x24), (25, .val .bool x25), (29, .val (.int .i64) x29), (30, .val (.int .i64) x30), (31, .val (.int .i64) x31), (32, .val (.int .i64) x32)] []
noncomputable def laws_FnJubileesCome.j1 (x1 : List Int) (x5 : List Int) (x6 : Int) (x7 : Int) (x8 : Int) (x9 : List (List Int)) (x13 : Int) (x17 : Int) (x18 : Int) (x23 : Int) (x24 : Int) (x25 : Bool) (x29 : Int) (x30 : Int) (x31 : Int) (x32 : Int) (x33 : List Int) (x297 : Bool) : Option (Bool) := runJ laws_FnJubileesCome.g T laws_FnJubileesCome.i [true, true, true, true, true, true, true, true, true, true, true, true, false, true, false, true, false, true, false, false, true, false, false, true, false, true] [(1, .val (.slice (.int .u8)) x1), (5, .val (.slice (.int .i64)) x5), (6, .val (.int .i64) x6), (7, .val (.int .i64) x7), (8, .val (.int .i64) x8), (9, .own 24 (.slice (.int .i64)) x9), (13, .val (.int .i64) x13), (17, .val (.int .i64) x17), (18, .val (.int .i64) x18), (23, .val (.int .i64) x23), (24, .val (.int .i64) x24), (25, .val .bool x25), (29, .val (.int .i64) x29), (30, .val (.int .i64) x30), (31, .val (.int .i64) x31), (32, .val (.int .i64) x32), (33, .own 3 (.int .i64) x33), (297, .val .bool x297)] []
noncomputable def laws_FnJubileesCome.j2 (x1 : List Int) (x5 : List Int) (x6 : Int) (x7 : Int) (x8 : Int) (x9 : List (List Int)) (x13 : Int) (x17 : Int) (x18 : Int) (x23 : Int) (x24 : Int) (x25 : Bool) (x29 : Int) (x30 : Int) (x32 : Int) (x341 : Bool) : Option (Bool) := runJ laws_FnJubileesCome.g T laws_FnJubileesCome.i [true, true, true, true, true, true, true, true, true, true, true, true, false, true, false, true, false, true, false, false, true, false, false, true, true, true, true, false, true, false, false, true] [(1, .val (.slice (.int .u8)) x1), (5, .val (.slice (.int .i64)) x5), (6, .val (.int .i64) x6), (7, .val (.int .i64) x7), (8, .val (.int .i64) x8), (9, .own 24 (.slice (.int .i64)) x9), (13, .val (.int .i64) x13), (17, .val (.int .i64) x17), (18, .val (.int .i64) x18), (23, .val (.int .i64) x23), (24, .val (.int .i64) x24), (25, .val .bool x25), (29, .val (.int .i64) x29), (30, .val (.int .i64) x30), (32, .val (.int .i64) x32), (341, .val .bool x341)] []
noncomputable def laws_FnJubileesCome.j3 (x1 : List Int) (x5 : List Int) (x6 : Int) (x7 : Int) (x8 : Int) (x23 : Int) (x24 : Int) (x25 : Bool) (x372 : Bool) : Option (Bool) := runJ laws_FnJubileesCome.g T laws_FnJubileesCome.i [true, true, true, true, true, true, true, true, true, true, true, true, false, true, false, true, true, false, true] [(1, .val (.slice (.int .u8)) x1), (5, .val (.slice (.int .i64)) x5), (6, .val (.int .i64) x6), (7, .val (.int .i64) x7), (8, .val (.int .i64) x8), (23, .val (.int .i64) x23), (24, .val (.int .i64) x24), (25, .val .bool x25), (372, .val .bool x372)] []
noncomputable def laws_FnJubileesCome.l1 (x1 : List Int) (x5 : List Int) (x6 : Int) (x7 : Int) (x8 : Int) (x23 : Int) (x24 : Int) (x35 : Int) : Option (Bool) := runAt laws_FnJubileesCome.g T laws_FnJubileesCome.i [true, true, true, true, true, true, true, true, true, true, true, true, false, true, false, true, true, true, true, false, true, false] [(1, .val (.slice (.int .u8)) x1), (5, .val (.slice (.int .i64)) x5), (6, .val (.int .i64) x6), (7, .val (.int .i64) x7), (8, .val (.int .i64) x8), (23, .val (.int .i64) x23), (24, .val (.int .i64) x24), (35, .val (.int .i64) x35)] []
noncomputable def laws_FnJubileesCome.j4 (x1 : List Int) : Option (Bool) := runJ laws_FnJubileesCome.g T laws_FnJubileesCome.i [true, true, true, true, true, true, true, true, true, true, true, true, true] [(1, .val (.slice (.int .u8)) x1)] []
noncomputable def laws_FnJubileesCome.j5 (x38 : List Int) (x39 : Int) (x40 : Int) (x41 : Int) (x42 : Bool) (x45 : List Int) (x46 : Bool) (x49 : Int) (x50 : Int) (x51 : Bool) (x55 : List Int) (x56 : Int) (x57 : List Int) (x58 : Bool) (x61 : Int) (x62 : Int) (x63 : Int) (x64 : Int) (x65 : List Int) (x66 : Bool) (x568 : Bool) : Option (Bool) := runJ laws_FnJubileesCome.g T laws_FnJubileesCome.i [true, true, true, true, true, true, true, true, true, true, true, true, true, true, true, true, true, true, true, true, true, true, true, true, true, true, false, true] [(38, .own 3 (.int .i64) x38), (39, .val (.int .i64) x39), (40, .val (.int .i64) x40), (41, .val (.int .i64) x41), (42, .val .bool x42), (45, .own 3 (.int .i64) x45), (46, .val .bool x46), (49, .val (.int .i64) x49), (50, .val (.int .i64) x50), (51, .val .bool x51), (55, .own 3 (.int .i64) x55), (56, .val (.int .i64) x56), (57, .own 3 (.int .i64) x57), (58, .val .bool x58), (61, .val (.int .i64) x61), (62, .val (.int .i64) x62), (63, .val (.int .i64) x63), (64, .val (.int .i64) x64), (65, .own 3 (.int .i64) x65), (66, .val .bool x66), (568, .val .bool x568)] []
noncomputable def laws_FnJubileesCome.l2 (x38 : List Int) (x39 : Int) (x40 : Int) (x41 : Int) (x42 : Bool) (x45 : List Int) (x49 : Int) (x50 : Int) (x51 : Bool) (x55 : List Int) (x56 : Int) (x57 : List Int) (x58 : Bool) (x61 : Int) (x62 : Int) (x63 : Int) (x64 : Int) (x65 : List Int) (x66 : Bool) (x571 : Int) (x572 : Int) : Option (Bool) := runAt laws_FnJubileesCome.g T laws_FnJubileesCome.i [true, true, true, true, true, true, true, true, true, true, true, true, true, true, true, true, true, true, true, true, true, true, true, true, true, true, true, false, true, false, true, false] [(38, .own 3 (.int .i64) x38), (39, .val (.int .i64) x39), (40, .val (.int .i64) x40), (41, .val (.int .i64) x41), (42, .val .bool x42), (45, .own 3 (.int .i64) x45), (49, .val (.int .i64) x49), (50, .val (.int .i64) x50), (51, .val .bool x51), (55, .own 3 (.int .i64) x55), (56, .val (.int .i64) x56), (57, .own 3 (.int .i64) x57), (58, .val .bool x58), (61, .val (.int .i64) x61), (62, .val (.int .i64) x62), (63, .val (.int .i64) x63), (64, .val (.int .i64) x64), (65, .own 3 (.int .i64) x65), (66, .val .bool x66), (570, .alias 38), (571, .val (.int .i64) x571), (572, .val (.int .i64) x572)] []
noncomputable def laws_FnJubileesCome.j6 (x38 : List Int) (x39 : Int) (x40 : Int) (x41 : Int) (x42 : Bool) (x45 : List Int) (x49 : Int) (x50 : Int) (x51 : Bool) (x55 : List Int) (x56 : Int) (x57 : List Int) (x58 : Bool) (x61 : Int) (x62 : Int) (x63 : Int) (x64 : Int) (x65 : List Int) (x66 : Bool) : Option (Bool) := runJ laws_FnJubileesCome.g T laws_FnJubileesCome.i [true, true, true, true, true, true, true, true, true, true, true, true, true, true, true, true, true, true, true, true, true, true, true, true, true, true, true, true] [(38, .own 3 (.int .i64) x38), (39, .val (.int .i64) x39), (40, .val (.int .i64) x40), (41, .val (.int .i64) x41), (42, .val .bool x42), (45, .own 3 (.int .i64) x45), (49, .val (.int .i64) x49), (50, .val (.int .i64) x50), (51, .val .bool x51), (55, .own 3 (.int .i64) x55), (56, .val (.int .i64) x56), (57, .own 3 (.int .i64) x57), (58, .val .bool x58), (61, .val (.int .i64) x61), (62, .val (.int .i64) x62), (63, .val (.int .i64) x63), (64, .val (.int .i64) x64), (65, .own 3 (.int .i64) x65), (66, .val .bool x66)] []
noncomputable def laws_FnJubileesCome.l3 (x38 : List Int) (x39 : Int) (x40 : Int) (x41 : Int) (x45 : List Int) (x49 : Int) (x50 : Int) (x51 : Bool) (x55 : List Int) (x56 : Int) (x57 : List Int) (x58 : Bool) (x61 : Int) (x62 : Int) (x63 : Int) (x64 : Int) (x65 : List Int) (x66 : Bool) (x72 : Int) : Option (Bool) := runAt laws_FnJubileesCome.g T laws_FnJubileesCome.i [true, true, true, true, true, true, true, true, true, true, true, true, true, true, true, true, true, true, true, true, true, true, true, true, true, true, true, true, false, true, false, true, true, false] [(38, .own 3 (.int .i64) x38), (39, .val (.int .i64) x39), (40, .val (.int .i64) x40), (41, .val (.int .i64) x41), (45, .own 3 (.int .i64) x45), (49, .val (.int .i64) x49), (50, .val (.int .i64) x50), (51, .val .bool x51), (55, .own 3 (.int .i64) x55), (56, .val (.int .i64) x56), (57, .own 3 (.int .i64) x57), (58, .val .bool x58), (61, .val (.int .i64) x61), (62, .val (.int .i64) x62), (63, .val (.int .i64) x63), (64, .val (.int .i64) x64), (65, .own 3 (.int .i64) x65), (66, .val .bool x66), (72, .val (.int .i64) x72)] []
noncomputable def laws_FnJubileesCome.j7 (x38 : List Int) (x39 : Int) (x40 : Int) (x41 : Int) (x45 : List Int) (x49 : Int) (x50 : Int) (x51 : Bool) (x55 : List Int) (x56 : Int) (x57 : List Int) (x58 : Bool) (x61 : Int) (x62 : Int) (x63 : Int) (x64 : Int) (x65 : List Int) (x66 : Bool) (x72 : Int) (x611 : Bool) : Option (Bool) := runJ laws_FnJubileesCome.g T laws_FnJubileesCome.i [true, true, true, true, true, true, true, true, true, true, true, true, true, true, true, true, true, true, true, true, true, true, true, true, true, true, true, true, false, true, false, true, true, false, false, false, true] [(38, .own 3 (.int .i64) x38), (39, .val (.int .i64) x39), (40, .val (.int .i64) x40), (41, .val (.int .i64) x41), (45, .own 3 (.int .i64) x45), (49, .val (.int .i64) x49), (50, .val (.int .i64) x50), (51, .val .bool x51), (55, .own 3 (.int .i64) x55), (56, .val (.int .i64) x56), (57, .own 3 (.int .i64) x57), (58, .val .bool x58), (61, .val (.int .i64) x61), (62, .val (.int .i64) x62), (63, .val (.int .i64) x63), (64, .val (.int .i64) x64), (65, .own 3 (.int .i64) x65), (66, .val .bool x66), (72, .val (.int .i64) x72), (611, .val .bool x611)] []
noncomputable def laws_FnJubileesCome.j8 (x38 : List Int) (x39 : Int) (x45 : List Int) (x49 : Int) (x50 : Int) (x51 : Bool) (x55 : List Int) (x56 : Int) (x57 : List Int) (x58 : Bool) (x61 : Int) (x62 : Int) (x63 : Int) (x64 : Int) (x65 : List Int) (x66 : Bool) : Option (Bool) := runJ laws_FnJubileesCome.g T laws_FnJubileesCome.i [true, true, true, true, true, true, true, true, true, true, true, true, true, true, true, true, true, true, true, true, true, true, true, true, true, true, true, true, true] [(38, .own 3 (.int .i64) x38), (39, .val (.int .i64) x39), (45, .own 3 (.int .i64) x45), (49, .val (.int .i64) x49), (50, .val (.int .i64) x50), (51, .val .bool x51), (55, .own 3 (.int .i64) x55), (56, .val (.int .i64) x56), (57, .own 3 (.int .i64) x57), (58, .val .bool x58), (61, .val (.int .i64) x61), (62, .val (.int .i64) x62), (63, .val (.int .i64) x63), (64, .val (.int .i64) x64), (65, .own 3 (.int .i64) x65), (66, .val .bool x66)] []
noncomputable def laws_FnJubileesCome.j9 (x38 : List Int) (x39 : Int) (x45 : List Int) (x49 : Int) (x50 : Int) (x55 : List Int) (x56 : Int) (x57 : List Int) (x58 : Bool) (x61 : Int) (x62 : Int) (x63 : Int) (x64 : Int) (x65 : List Int) (x66 : Bool) (x646 : Bool) : Option (Bool) := runJ laws_FnJubileesCome.g T laws_FnJubileesCome.i [true, true, true, true, true, true, true, true, true, true, true, true, true, true, true, true, true, true, true, true, true, true, true, true, true, true, true, true, true, false, true, false, false, true] [(38, .own 3 (.int .i64) x38), (39, .val (.int .i64) x39), (45, .own 3 (.int .i64) x45), (49, .val (.int .i64) x49), (50, .val (.int .i64) x50), (55, .own 3 (.int .i64) x55), (56, .val (.int .i64) x56), (57, .own 3 (.int .i64) x57), (58, .val .bool x58), (61, .val (.int .i64) x61), (62, .val (.int .i64) x62), (63, .val (.int .i64) x63), (64, .val (.int .i64) x64), (65, .own 3 (.int .i64) x65), (66, .val .bool x66), (646, .val .bool x646)] []
noncomputable def laws_FnJubileesCome.l4 (x38 : List Int) (x39 : Int) (x45 : List Int) (x49 : Int) (x50 : Int) (x55 : List Int) (x56 : Int) (x57 : List Int) (x58 : Bool) (x61 : Int) (x62 : Int) (x63 : Int) (x64 : Int) (x65 : List Int) (x66 : Bool) (x648 : Int) (x649 : Int) : Option (Bool) := runAt laws_FnJubileesCome.g T laws_FnJubileesCome.i [true, true, true, true, true, true, true, true, true, true, true, true, true, true, true, true, true, true, true, true, true, true, true, true, true, true, true, true, true, false, true, false, true, true, false] [(38, .own 3 (.int .i64) x38), (39, .val (.int .i64) x39), (45, .own 3 (.int .i64) x45), (49, .val (.int .i64) x49), (50, .val (.int .i64) x50), (55, .own 3 (.int .i64) x55), (56, .val (.int .i64) x56), (57, .own 3 (.int .i64) x57), (58, .val .bool x58), (61, .val (.int .i64) x61), (62, .val (.int .i64) x62), (63, .val (.int .i64) x63), (64, .val (.int .i64) x64), (65, .own 3 (.int .i64) x65), (66, .val .bool x66), (647, .alias 45), (648, .val (.int .i64) x648), (649, .val (.int .i64) x649)] []
noncomputable def laws_FnJubileesCome.j10 (x55 : List Int) (x56 : Int) (x57 : List Int) (x58 : Bool) (x61 : Int) (x62 : Int) (x63 : Int) (x64 : Int) (x65 : List Int) (x66 : Bool) : Option (Bool) := runJ laws_FnJubileesCome.g T laws_FnJubileesCome.i [true, true, true, true, true, true, true, true, true, true, true, true, true, true, true, true, true, true, true, true, true, true, true, true, true, true, true, true, true, true] [(55, .own 3 (.int .i64) x55), (56, .val (.int .i64) x56), (57, .own 3 (.int .i64) x57), (58, .val .bool x58), (61, .val (.int .i64) x61), (62, .val (.int .i64) x62), (63, .val (.int .i64) x63), (64, .val (.int .i64) x64), (65, .own 3 (.int .i64) x65), (66, .val .bool x66)] []
noncomputable def laws_FnJubileesCome.l5 (x55 : List Int) (x56 : Int) (x57 : List Int) (x61 : Int) (x62 : Int) (x63 : Int) (x64 : Int) (x65 : List Int) (x66 : Bool) (x678 : Int) (x679 : Int) : Option (Bool) := runAt laws_FnJubileesCome.g T laws_FnJubileesCome.i [true, true, true, true, true, true, true, true, true, true, true, true, true, true, true, true, true, true, true, true, true, true, true, true, true, true, true, true, true, true, false, true, false, true, true, false] [(55, .own 3 (.int .i64) x55), (56, .val (.int .i64) x56), (57, .own 3 (.int .i64) x57), (61, .val (.int .i64) x61), (62, .val (.int .i64) x62), (63, .val (.int .i64) x63), (64, .val (.int .i64) x64), (65, .own 3 (.int .i64) x65), (66, .val .bool x66), (677, .alias 57), (678, .val (.int .i64) x678), (679, .val (.int .i64) x679)] []
noncomputable def laws_FnJubileesCome.j11 (x61 : Int) (x62 : Int) (x63 : Int) (x64 : Int) (x65 : List Int) (x66 : Bool) : Option (Bool) := runJ laws_FnJubileesCome.g T laws_FnJubileesCome.i [true, true, true, true, true, true, true, true, true, true, true, true, true, true, true, true, true, true, true, true, true, true, true, true, true, true, true, true, true, true, true] [(61, .val (.int .i64) x61), (62, .val (.int .i64) x62), (63, .val (.int .i64) x63), (64, .val (.int .i64) x64), (65, .own 3 (.int .i64) x65), (66, .val .bool x66)] []
noncomputable def laws_FnJubileesCome.l6 (x61 : Int) (x63 : Int) (x64 : Int) (x65 : List Int) (x82 : Int) : Option (Bool) := runAt laws_FnJubileesCome.g T laws_FnJubileesCome.i [true, true, true, true, true, true, true, true, true, true, true, true, true, true, true, true, true, true, true, true, true, true, true, true, true, true, true, true, true, true, true, false, true, false, true, false] [(61, .val (.int .i64) x61), (63, .val (.int .i64) x63), (64, .val (.int .i64) x64), (65, .own 3 (.int .i64) x65), (82, .val (.int .i64) x82)] []
theorem laws_FnJubileesCome.f.eq (x0 : List Int) (x1 : List Int) : laws_FnJubileesCome.f x0 x1 =
  (laws_big.f x0 x1).bind fun y1 =>
  if y1 = true then
    some true
  else
    (spec_DrawCalendarOf.f x0).bind fun y2 =>
    (impl_CalendarOf.f y2.1 y2.2.1 y2.2.2.1 y2.2.2.2).bind fun y3 =>
    (spec_CalendarOf.f y2.1 y2.2.1 y2.2.2.1 y2.2.2.2).bind fun y4 =>
    (impl_CountJubilees.f y2.1 y2.2.1 y2.2.2.1 y2.2.2.2).bind fun y5 =>
    (spec_CountJubilees.f y2.1 y2.2.1 y2.2.2.1 y2.2.2.2).bind fun y6 =>
    (impl_MostJubilees.f y2.1 y2.2.1 y2.2.2.1 y2.2.2.2).bind fun y7 =>
    (spec_MostJubilees.f y2.1 y2.2.1 y2.2.2.1 y2.2.2.2).bind fun y8 =>
    (impl_LongestQuiet.f y2.1 y2.2.1 y2.2.2.1 y2.2.2.2).bind fun y9 =>
    (spec_LongestQuiet.f y2.1 y2.2.1 y2.2.2.1 y2.2.2.2).bind fun y10 =>
    if (!(y3.2 == y4.2)) = true then
      laws_FnJubileesCome.j0 x1 y2.1 y2.2.1 y2.2.2.1 y2.2.2.2 y3.1 y3.2 y5.1 y7.1 y7.2.1 y9.1 y9.2.1 y9.2.2 true
    else
      (laws_qRows.f y3.1 y4.1).bind fun y58 =>
      if (if false = true then true else !y58) = true then
        laws_FnJubileesCome.j0 x1 y2.1 y2.2.1 y2.2.2.1 y2.2.2.2 y3.1 y3.2 y5.1 y7.1 y7.2.1 y9.1 y9.2.1 y9.2.2 true
      else
        if (if false = true then true else (!(y5.2 == y6.2))) = true then
          laws_FnJubileesCome.j0 x1 y2.1 y2.2.1 y2.2.2.1 y2.2.2.2 y3.1 y3.2 y5.1 y7.1 y7.2.1 y9.1 y9.2.1 y9.2.2 true
        else
          if (if false = true then true else (y5.1 != y6.1)) = true then
            laws_FnJubileesCome.j0 x1 y2.1 y2.2.1 y2.2.2.1 y2.2.2.2 y3.1 y3.2 y5.1 y7.1 y7.2.1 y9.1 y9.2.1 y9.2.2 true
          else
            if (if false = true then true else (!(y7.2.2 == y8.2.2))) = true then
              laws_FnJubileesCome.j0 x1 y2.1 y2.2.1 y2.2.2.1 y2.2.2.2 y3.1 y3.2 y5.1 y7.1 y7.2.1 y9.1 y9.2.1 y9.2.2 true
            else
              if (if false = true then true else (y7.1 != y8.1)) = true then
                laws_FnJubileesCome.j0 x1 y2.1 y2.2.1 y2.2.2.1 y2.2.2.2 y3.1 y3.2 y5.1 y7.1 y7.2.1 y9.1 y9.2.1 y9.2.2 true
              else
                if (if false = true then true else (y7.2.1 != y8.2.1)) = true then
                  laws_FnJubileesCome.j0 x1 y2.1 y2.2.1 y2.2.2.1 y2.2.2.2 y3.1 y3.2 y5.1 y7.1 y7.2.1 y9.1 y9.2.1 y9.2.2 true
                else
                  if (if false = true then true else (!(y9.2.2 == y10.2.2))) = true then
                    laws_FnJubileesCome.j0 x1 y2.1 y2.2.1 y2.2.2.1 y2.2.2.2 y3.1 y3.2 y5.1 y7.1 y7.2.1 y9.1 y9.2.1 y9.2.2 true
                  else
                    if (if false = true then true else (y9.1 != y10.1)) = true then
                      laws_FnJubileesCome.j0 x1 y2.1 y2.2.1 y2.2.2.1 y2.2.2.2 y3.1 y3.2 y5.1 y7.1 y7.2.1 y9.1 y9.2.1 y9.2.2 true
                    else
                      if (if false = true then true else (y9.2.1 != y10.2.1)) = true then
                        laws_FnJubileesCome.j0 x1 y2.1 y2.2.1 y2.2.2.1 y2.2.2.2 y3.1 y3.2 y5.1 y7.1 y7.2.1 y9.1 y9.2.1 y9.2.2 true
                      else
                        if (if false = true then true else (!(y5.2 == y3.2))) = true then
                          laws_FnJubileesCome.j0 x1 y2.1 y2.2.1 y2.2.2.1 y2.2.2.2 y3.1 y3.2 y5.1 y7.1 y7.2.1 y9.1 y9.2.1 y9.2.2 true
                        else
                          if (if false = true then true else (!(y7.2.2 == y3.2))) = true then
                            laws_FnJubileesCome.j0 x1 y2.1 y2.2.1 y2.2.2.1 y2.2.2.2 y3.1 y3.2 y5.1 y7.1 y7.2.1 y9.1 y9.2.1 y9.2.2 true
                          else
                            if y3.2 = true then
                              if (if false = true then true else (!(y9.2.2 == (if true = true then (decide ((y3.1.length : Int) < (IntKind.i64.wrap ((IntKind.i64.wrap (y2.2.2.1 - y2.2.1)) + 1)))) else false)))) = true then
                                laws_FnJubileesCome.j0 x1 y2.1 y2.2.1 y2.2.2.1 y2.2.2.2 y3.1 y3.2 y5.1 y7.1 y7.2.1 y9.1 y9.2.1 y9.2.2 true
                              else
                                if y3.2 = true then
                                  (impl_AreBirths.f y2.1).bind fun y87 =>
                                  if (if false = true then true else (if true = true then !y87 else false)) = true then
                                    laws_FnJubileesCome.j0 x1 y2.1 y2.2.1 y2.2.2.1 y2.2.2.2 y3.1 y3.2 y5.1 y7.1 y7.2.1 y9.1 y9.2.1 y9.2.2 true
                                  else
                                    (impl_AreBirths.f y2.1).bind fun y90 =>
                                    (spec_AreBirths.f y2.1).bind fun y91 =>
                                    laws_FnJubileesCome.j0 x1 y2.1 y2.2.1 y2.2.2.1 y2.2.2.2 y3.1 y3.2 y5.1 y7.1 y7.2.1 y9.1 y9.2.1 y9.2.2 (if false = true then true else (!(y90 == y91)))
                                else
                                  (impl_AreBirths.f y2.1).bind fun y94 =>
                                  (spec_AreBirths.f y2.1).bind fun y95 =>
                                  laws_FnJubileesCome.j0 x1 y2.1 y2.2.1 y2.2.2.1 y2.2.2.2 y3.1 y3.2 y5.1 y7.1 y7.2.1 y9.1 y9.2.1 y9.2.2 (if false = true then true else (!(y94 == y95)))
                            else
                              if (if false = true then true else (!(y9.2.2 == false))) = true then
                                laws_FnJubileesCome.j0 x1 y2.1 y2.2.1 y2.2.2.1 y2.2.2.2 y3.1 y3.2 y5.1 y7.1 y7.2.1 y9.1 y9.2.1 y9.2.2 true
                              else
                                if y3.2 = true then
                                  (impl_AreBirths.f y2.1).bind fun y100 =>
                                  if (if false = true then true else (if true = true then !y100 else false)) = true then
                                    laws_FnJubileesCome.j0 x1 y2.1 y2.2.1 y2.2.2.1 y2.2.2.2 y3.1 y3.2 y5.1 y7.1 y7.2.1 y9.1 y9.2.1 y9.2.2 true
                                  else
                                    (impl_AreBirths.f y2.1).bind fun y103 =>
                                    (spec_AreBirths.f y2.1).bind fun y104 =>
                                    laws_FnJubileesCome.j0 x1 y2.1 y2.2.1 y2.2.2.1 y2.2.2.2 y3.1 y3.2 y5.1 y7.1 y7.2.1 y9.1 y9.2.1 y9.2.2 (if false = true then true else (!(y103 == y104)))
                                else
                                  (impl_AreBirths.f y2.1).bind fun y107 =>
                                  (spec_AreBirths.f y2.1).bind fun y108 =>
                                  laws_FnJubileesCome.j0 x1 y2.1 y2.2.1 y2.2.2.1 y2.2.2.2 y3.1 y3.2 y5.1 y7.1 y7.2.1 y9.1 y9.2.1 y9.2.2 (if false = true then true else (!(y107 == y108))) := by kernel_rfl
theorem laws_FnJubileesCome.j0.eq (x1 : List Int) (x5 : List Int) (x6 : Int) (x7 : Int) (x8 : Int) (x9 : List (List Int)) (x10 : Bool) (x13 : Int) (x17 : Int) (x18 : Int) (x23 : Int) (x24 : Int) (x25 : Bool) (x248 : Bool) : laws_FnJubileesCome.j0 x1 x5 x6 x7 x8 x9 x10 x13 x17 x18 x23 x24 x25 x248 =
  if x248 = true then
    some false
  else
    if x10 = true then
      laws_FnJubileesCome.l0 x1 x5 x6 x7 x8 x9 x13 x17 x18 x23 x24 x25 0 0 0 x6
    else
      laws_FnJubileesCome.j4 x1 := (runJ_eq _ _ _ _ _ _).trans (by kernel_rfl)
theorem laws_FnJubileesCome.l0.eq (x1 : List Int) (x5 : List Int) (x6 : Int) (x7 : Int) (x8 : Int) (x9 : List (List Int)) (x13 : Int) (x17 : Int) (x18 : Int) (x23 : Int) (x24 : Int) (x25 : Bool) (x29 : Int) (x30 : Int) (x31 : Int) (x32 : Int) : laws_FnJubileesCome.l0 x1 x5 x6 x7 x8 x9 x13 x17 x18 x23 x24 x25 x29 x30 x31 x32 =
  if (decide (x32 ≤ x7)) = true then
    (impl_JubileesIn.f x5 x32 x8).bind fun y2 =>
    if (!y2.2) = true then
      laws_FnJubileesCome.j1 x1 x5 x6 x7 x8 x9 x13 x17 x18 x23 x24 x25 x29 x30 x31 x32 y2.1 true
    else
      (laws_qRises.f y2.1).bind fun y34 =>
      if (if false = true then true else !y34) = true then
        laws_FnJubileesCome.j1 x1 x5 x6 x7 x8 x9 x13 x17 x18 x23 x24 x25 x29 x30 x31 x32 y2.1 true
      else
        if (if false = true then true else (decide ((y2.1.length : Int) > x18))) = true then
          laws_FnJubileesCome.j1 x1 x5 x6 x7 x8 x9 x13 x17 x18 x23 x24 x25 x29 x30 x31 x32 y2.1 true
        else
          if ((y2.1.length : Int) == x18) = true then
            if (if false = true then true else (if true = true then (decide (x32 < x17)) else false)) = true then
              laws_FnJubileesCome.j1 x1 x5 x6 x7 x8 x9 x13 x17 x18 x23 x24 x25 x29 x30 x31 x32 y2.1 true
            else
              if (x32 == x17) = true then
                laws_FnJubileesCome.j1 x1 x5 x6 x7 x8 x9 x13 x17 x18 x23 x24 x25 x29 x30 x31 x32 y2.1 (if false = true then true else (if true = true then ((y2.1.length : Int) != x18) else false))
              else
                laws_FnJubileesCome.j1 x1 x5 x6 x7 x8 x9 x13 x17 x18 x23 x24 x25 x29 x30 x31 x32 y2.1 false
          else
            if (x32 == x17) = true then
              laws_FnJubileesCome.j1 x1 x5 x6 x7 x8 x9 x13 x17 x18 x23 x24 x25 x29 x30 x31 x32 y2.1 (if false = true then true else (if true = true then ((y2.1.length : Int) != x18) else false))
            else
              laws_FnJubileesCome.j1 x1 x5 x6 x7 x8 x9 x13 x17 x18 x23 x24 x25 x29 x30 x31 x32 y2.1 false
  else
    if (x29 != x13) = true then
      laws_FnJubileesCome.j3 x1 x5 x6 x7 x8 x23 x24 x25 true
    else
      laws_FnJubileesCome.j3 x1 x5 x6 x7 x8 x23 x24 x25 (if false = true then true else (x30 != (x9.length : Int))) := (runAt_loop _ _ _ _ _ _).trans (by kernel_rfl)
theorem laws_FnJubileesCome.j1.eq (x1 : List Int) (x5 : List Int) (x6 : Int) (x7 : Int) (x8 : Int) (x9 : List (List Int)) (x13 : Int) (x17 : Int) (x18 : Int) (x23 : Int) (x24 : Int) (x25 : Bool) (x29 : Int) (x30 : Int) (x31 : Int) (x32 : Int) (x33 : List Int) (x297 : Bool) : laws_FnJubileesCome.j1 x1 x5 x6 x7 x8 x9 x13 x17 x18 x23 x24 x25 x29 x30 x31 x32 x33 x297 =
  if x297 = true then
    some false
  else
    let y2 := IntKind.i64.wrap (x29 + (x33.length : Int))
    let y3 := IntKind.i64.wrap (x31 + 1)
    if (decide ((x33.length : Int) > 0)) = true then
      if (decide (x30 ≥ (x9.length : Int))) = true then
        laws_FnJubileesCome.j2 x1 x5 x6 x7 x8 x9 x13 x17 x18 x23 x24 x25 y2 x30 x32 true
      else
        (rdI x9 x30).bind fun y8 =>
        if (if false = true then true else ((y8.length : Int) != (IntKind.i64.wrap ((x33.length : Int) + 1)))) = true then
          laws_FnJubileesCome.j2 x1 x5 x6 x7 x8 x9 x13 x17 x18 x23 x24 x25 y2 x30 x32 true
        else
          (rdI x9 x30).bind fun y14 =>
          (rdI y14 0).bind fun y15 =>
          if (if false = true then true else (y15 != x32)) = true then
            laws_FnJubileesCome.j2 x1 x5 x6 x7 x8 x9 x13 x17 x18 x23 x24 x25 y2 x30 x32 true
          else
            (rdI x9 x30).bind fun y18 =>
            (subI y18 1 y18.length).bind fun y19 =>
            (laws_qSame.f y19 x33).bind fun y20 =>
            laws_FnJubileesCome.j2 x1 x5 x6 x7 x8 x9 x13 x17 x18 x23 x24 x25 y2 x30 x32 (if false = true then true else !y20)
    else
      if (decide (y3 > x24)) = true then
        some false
      else
        if (y3 == x24) = true then
          if (if true = true then (decide (y3 > 0)) else false) = true then
            if (if false = true then true else (if true = true then (decide ((IntKind.i64.wrap ((IntKind.i64.wrap (x32 - y3)) + 1)) < x23)) else false)) = true then
              some false
            else
              laws_FnJubileesCome.l0 x1 x5 x6 x7 x8 x9 x13 x17 x18 x23 x24 x25 y2 x30 y3 (IntKind.i64.wrap (x32 + 1))
          else
            laws_FnJubileesCome.l0 x1 x5 x6 x7 x8 x9 x13 x17 x18 x23 x24 x25 y2 x30 y3 (IntKind.i64.wrap (x32 + 1))
        else
          laws_FnJubileesCome.l0 x1 x5 x6 x7 x8 x9 x13 x17 x18 x23 x24 x25 y2 x30 y3 (IntKind.i64.wrap (x32 + 1)) := (runJ_eq _ _ _ _ _ _).trans (by kernel_rfl)
theorem laws_FnJubileesCome.j2.eq (x1 : List Int) (x5 : List Int) (x6 : Int) (x7 : Int) (x8 : Int) (x9 : List (List Int)) (x13 : Int) (x17 : Int) (x18 : Int) (x23 : Int) (x24 : Int) (x25 : Bool) (x29 : Int) (x30 : Int) (x32 : Int) (x341 : Bool) : laws_FnJubileesCome.j2 x1 x5 x6 x7 x8 x9 x13 x17 x18 x23 x24 x25 x29 x30 x32 x341 =
  if x341 = true then
    some false
  else
    let y1 := IntKind.i64.wrap (x30 + 1)
    if (decide (0 > x24)) = true then
      some false
    else
      if (0 == x24) = true then
        laws_FnJubileesCome.l0 x1 x5 x6 x7 x8 x9 x13 x17 x18 x23 x24 x25 x29 y1 0 (IntKind.i64.wrap (x32 + 1))
      else
        laws_FnJubileesCome.l0 x1 x5 x6 x7 x8 x9 x13 x17 x18 x23 x24 x25 x29 y1 0 (IntKind.i64.wrap (x32 + 1)) := (runJ_eq _ _ _ _ _ _).trans (by kernel_rfl)
theorem laws_FnJubileesCome.j3.eq (x1 : List Int) (x5 : List Int) (x6 : Int) (x7 : Int) (x8 : Int) (x23 : Int) (x24 : Int) (x25 : Bool) (x372 : Bool) : laws_FnJubileesCome.j3 x1 x5 x6 x7 x8 x23 x24 x25 x372 =
  if x372 = true then
    some false
  else
    if x25 = true then
      laws_FnJubileesCome.l1 x1 x5 x6 x7 x8 x23 x24 x23
    else
      laws_FnJubileesCome.j4 x1 := (runJ_eq _ _ _ _ _ _).trans (by kernel_rfl)
theorem laws_FnJubileesCome.l1.eq (x1 : List Int) (x5 : List Int) (x6 : Int) (x7 : Int) (x8 : Int) (x23 : Int) (x24 : Int) (x35 : Int) : laws_FnJubileesCome.l1 x1 x5 x6 x7 x8 x23 x24 x35 =
  if (decide (x35 < (IntKind.i64.wrap (x23 + x24)))) = true then
    (impl_JubileesIn.f x5 x35 x8).bind fun y3 =>
    if (decide (x35 < x6)) = true then
      some false
    else
      if (if false = true then true else (decide (x35 > x7))) = true then
        some false
      else
        if (if false = true then true else !y3.2) = true then
          some false
        else
          if (if false = true then true else (y3.1.length : Int) != 0) = true then
            some false
          else
            laws_FnJubileesCome.l1 x1 x5 x6 x7 x8 x23 x24 (IntKind.i64.wrap (x35 + 1))
  else
    laws_FnJubileesCome.j4 x1 := (runAt_loop _ _ _ _ _ _).trans (by kernel_rfl)
theorem laws_FnJubileesCome.j4.eq (x1 : List Int) : laws_FnJubileesCome.j4 x1 =
  (spec_DrawNextJubilee.f x1).bind fun y1 =>
  (impl_NextJubilee.f y1.1 y1.2.1 y1.2.2).bind fun y2 =>
  (spec_NextJubilee.f y1.1 y1.2.1 y1.2.2).bind fun y3 =>
  (impl_JubileesIn.f y1.1 y1.2.1 y1.2.2).bind fun y4 =>
  (spec_JubileesIn.f y1.1 y1.2.1 y1.2.2).bind fun y5 =>
  (impl_OldestRound.f y1.1 y1.2.1 y1.2.2).bind fun y6 =>
  (spec_OldestRound.f y1.1 y1.2.1 y1.2.2).bind fun y7 =>
  (spec_DrawTogetherJubilees.f x1).bind fun y8 =>
  (impl_TogetherJubilees.f y8.1 y8.2).bind fun y9 =>
  (spec_TogetherJubilees.f y8.1 y8.2).bind fun y10 =>
  (spec_DrawAnniversaries.f x1).bind fun y11 =>
  (impl_Anniversaries.f y11.1 y11.2.1 y11.2.2.1 y11.2.2.2).bind fun y14 =>
  (spec_Anniversaries.f y11.1 y11.2.1 y11.2.2.1 y11.2.2.2).bind fun y15 =>
  if (!(y2.2 == y3.2)) = true then
    laws_FnJubileesCome.j5 y1.1 y1.2.1 y1.2.2 y2.1 y2.2 y4.1 y4.2 y6.1 y6.2.1 y6.2.2 y8.1 y8.2 y9.1 y9.2 y11.1 y11.2.1 y11.2.2.1 y11.2.2.2 y14.1 y14.2 true
  else
    if (if false = true then true else (y2.1 != y3.1)) = true then
      laws_FnJubileesCome.j5 y1.1 y1.2.1 y1.2.2 y2.1 y2.2 y4.1 y4.2 y6.1 y6.2.1 y6.2.2 y8.1 y8.2 y9.1 y9.2 y11.1 y11.2.1 y11.2.2.1 y11.2.2.2 y14.1 y14.2 true
    else
      if (if false = true then true else (!(y4.2 == y5.2))) = true then
        laws_FnJubileesCome.j5 y1.1 y1.2.1 y1.2.2 y2.1 y2.2 y4.1 y4.2 y6.1 y6.2.1 y6.2.2 y8.1 y8.2 y9.1 y9.2 y11.1 y11.2.1 y11.2.2.1 y11.2.2.2 y14.1 y14.2 true
      else
        (laws_qSame.f y4.1 y5.1).bind fun y21 =>
        if (if false = true then true else !y21) = true then
          laws_FnJubileesCome.j5 y1.1 y1.2.1 y1.2.2 y2.1 y2.2 y4.1 y4.2 y6.1 y6.2.1 y6.2.2 y8.1 y8.2 y9.1 y9.2 y11.1 y11.2.1 y11.2.2.1 y11.2.2.2 y14.1 y14.2 true
        else
          if (if false = true then true else (!(y6.2.2 == y7.2.2))) = true then
            laws_FnJubileesCome.j5 y1.1 y1.2.1 y1.2.2 y2.1 y2.2 y4.1 y4.2 y6.1 y6.2.1 y6.2.2 y8.1 y8.2 y9.1 y9.2 y11.1 y11.2.1 y11.2.2.1 y11.2.2.2 y14.1 y14.2 true
          else
            if (if false = true then true else (y6.1 != y7.1)) = true then
              laws_FnJubileesCome.j5 y1.1 y1.2.1 y1.2.2 y2.1 y2.2 y4.1 y4.2 y6.1 y6.2.1 y6.2.2 y8.1 y8.2 y9.1 y9.2 y11.1 y11.2.1 y11.2.2.1 y11.2.2.2 y14.1 y14.2 true
            else
              if (if false = true then true else (y6.2.1 != y7.2.1)) = true then
                laws_FnJubileesCome.j5 y1.1 y1.2.1 y1.2.2 y2.1 y2.2 y4.1 y4.2 y6.1 y6.2.1 y6.2.2 y8.1 y8.2 y9.1 y9.2 y11.1 y11.2.1 y11.2.2.1 y11.2.2.2 y14.1 y14.2 true
              else
                if (if false = true then true else (!(y9.2 == y10.2))) = true then
                  laws_FnJubileesCome.j5 y1.1 y1.2.1 y1.2.2 y2.1 y2.2 y4.1 y4.2 y6.1 y6.2.1 y6.2.2 y8.1 y8.2 y9.1 y9.2 y11.1 y11.2.1 y11.2.2.1 y11.2.2.2 y14.1 y14.2 true
                else
                  (laws_qSame.f y9.1 y10.1).bind fun y31 =>
                  if (if false = true then true else !y31) = true then
                    laws_FnJubileesCome.j5 y1.1 y1.2.1 y1.2.2 y2.1 y2.2 y4.1 y4.2 y6.1 y6.2.1 y6.2.2 y8.1 y8.2 y9.1 y9.2 y11.1 y11.2.1 y11.2.2.1 y11.2.2.2 y14.1 y14.2 true
                  else
                    if (if false = true then true else (!(y14.2 == y15.2))) = true then
                      laws_FnJubileesCome.j5 y1.1 y1.2.1 y1.2.2 y2.1 y2.2 y4.1 y4.2 y6.1 y6.2.1 y6.2.2 y8.1 y8.2 y9.1 y9.2 y11.1 y11.2.1 y11.2.2.1 y11.2.2.2 y14.1 y14.2 true
                    else
                      (laws_qSame.f y14.1 y15.1).bind fun y35 =>
                      if (if false = true then true else !y35) = true then
                        laws_FnJubileesCome.j5 y1.1 y1.2.1 y1.2.2 y2.1 y2.2 y4.1 y4.2 y6.1 y6.2.1 y6.2.2 y8.1 y8.2 y9.1 y9.2 y11.1 y11.2.1 y11.2.2.1 y11.2.2.2 y14.1 y14.2 true
                      else
                        if y4.2 = true then
                          if (if false = true then true else (!(y6.2.2 == (if true = true then (decide ((y4.1.length : Int) > 0)) else false)))) = true then
                            laws_FnJubileesCome.j5 y1.1 y1.2.1 y1.2.2 y2.1 y2.2 y4.1 y4.2 y6.1 y6.2.1 y6.2.2 y8.1 y8.2 y9.1 y9.2 y11.1 y11.2.1 y11.2.2.1 y11.2.2.2 y14.1 y14.2 true
                          else
                            if y2.2 = true then
                              laws_FnJubileesCome.j5 y1.1 y1.2.1 y1.2.2 y2.1 y2.2 y4.1 y4.2 y6.1 y6.2.1 y6.2.2 y8.1 y8.2 y9.1 y9.2 y11.1 y11.2.1 y11.2.2.1 y11.2.2.2 y14.1 y14.2 (if false = true then true else (if true = true then !y4.2 else false))
                            else
                              laws_FnJubileesCome.j5 y1.1 y1.2.1 y1.2.2 y2.1 y2.2 y4.1 y4.2 y6.1 y6.2.1 y6.2.2 y8.1 y8.2 y9.1 y9.2 y11.1 y11.2.1 y11.2.2.1 y11.2.2.2 y14.1 y14.2 false
                        else
                          if (if false = true then true else (!(y6.2.2 == false))) = true then
                            laws_FnJubileesCome.j5 y1.1 y1.2.1 y1.2.2 y2.1 y2.2 y4.1 y4.2 y6.1 y6.2.1 y6.2.2 y8.1 y8.2 y9.1 y9.2 y11.1 y11.2.1 y11.2.2.1 y11.2.2.2 y14.1 y14.2 true
                          else
                            if y2.2 = true then
                              laws_FnJubileesCome.j5 y1.1 y1.2.1 y1.2.2 y2.1 y2.2 y4.1 y4.2 y6.1 y6.2.1 y6.2.2 y8.1 y8.2 y9.1 y9.2 y11.1 y11.2.1 y11.2.2.1 y11.2.2.2 y14.1 y14.2 (if false = true then true else (if true = true then !y4.2 else false))
                            else
                              laws_FnJubileesCome.j5 y1.1 y1.2.1 y1.2.2 y2.1 y2.2 y4.1 y4.2 y6.1 y6.2.1 y6.2.2 y8.1 y8.2 y9.1 y9.2 y11.1 y11.2.1 y11.2.2.1 y11.2.2.2 y14.1 y14.2 false := (runJ_eq _ _ _ _ _ _).trans (by kernel_rfl)
theorem laws_FnJubileesCome.j5.eq (x38 : List Int) (x39 : Int) (x40 : Int) (x41 : Int) (x42 : Bool) (x45 : List Int) (x46 : Bool) (x49 : Int) (x50 : Int) (x51 : Bool) (x55 : List Int) (x56 : Int) (x57 : List Int) (x58 : Bool) (x61 : Int) (x62 : Int) (x63 : Int) (x64 : Int) (x65 : List Int) (x66 : Bool) (x568 : Bool) : laws_FnJubileesCome.j5 x38 x39 x40 x41 x42 x45 x46 x49 x50 x51 x55 x56 x57 x58 x61 x62 x63 x64 x65 x66 x568 =
  if x568 = true then
    some false
  else
    if x46 = true then
      laws_FnJubileesCome.l2 x38 x39 x40 x41 x42 x45 x49 x50 x51 x55 x56 x57 x58 x61 x62 x63 x64 x65 x66 (x38.length : Int) 0
    else
      laws_FnJubileesCome.j6 x38 x39 x40 x41 x42 x45 x49 x50 x51 x55 x56 x57 x58 x61 x62 x63 x64 x65 x66 := (runJ_eq _ _ _ _ _ _).trans (by kernel_rfl)
theorem laws_FnJubileesCome.l2.eq (x38 : List Int) (x39 : Int) (x40 : Int) (x41 : Int) (x42 : Bool) (x45 : List Int) (x49 : Int) (x50 : Int) (x51 : Bool) (x55 : List Int) (x56 : Int) (x57 : List Int) (x58 : Bool) (x61 : Int) (x62 : Int) (x63 : Int) (x64 : Int) (x65 : List Int) (x66 : Bool) (x571 : Int) (x572 : Int) : laws_FnJubileesCome.l2 x38 x39 x40 x41 x42 x45 x49 x50 x51 x55 x56 x57 x58 x61 x62 x63 x64 x65 x66 x571 x572 =
  if (decide (x572 < x571)) = true then
    (rdI x38 x572).bind fun y2 =>
    let y3 := IntKind.i64.wrap (x39 - y2)
    (laws_qHas.f x45 x572).bind fun y4 =>
    if (decide (y3 > 0)) = true then
      if (if true = true then (decide (y3 ≤ 120)) else false) = true then
        if x40 = 0 then
          none
        else
          if (!(y4 == (if true = true then (y3.tmod x40) == 0 else false))) = true then
            some false
          else
            laws_FnJubileesCome.l2 x38 x39 x40 x41 x42 x45 x49 x50 x51 x55 x56 x57 x58 x61 x62 x63 x64 x65 x66 x571 (IntKind.i64.wrap (x572 + 1))
      else
        if (!(y4 == false)) = true then
          some false
        else
          laws_FnJubileesCome.l2 x38 x39 x40 x41 x42 x45 x49 x50 x51 x55 x56 x57 x58 x61 x62 x63 x64 x65 x66 x571 (IntKind.i64.wrap (x572 + 1))
    else
      if (!(y4 == false)) = true then
        some false
      else
        laws_FnJubileesCome.l2 x38 x39 x40 x41 x42 x45 x49 x50 x51 x55 x56 x57 x58 x61 x62 x63 x64 x65 x66 x571 (IntKind.i64.wrap (x572 + 1))
  else
    laws_FnJubileesCome.j6 x38 x39 x40 x41 x42 x45 x49 x50 x51 x55 x56 x57 x58 x61 x62 x63 x64 x65 x66 := (runAt_loop _ _ _ _ _ _).trans (by kernel_rfl)
theorem laws_FnJubileesCome.j6.eq (x38 : List Int) (x39 : Int) (x40 : Int) (x41 : Int) (x42 : Bool) (x45 : List Int) (x49 : Int) (x50 : Int) (x51 : Bool) (x55 : List Int) (x56 : Int) (x57 : List Int) (x58 : Bool) (x61 : Int) (x62 : Int) (x63 : Int) (x64 : Int) (x65 : List Int) (x66 : Bool) : laws_FnJubileesCome.j6 x38 x39 x40 x41 x42 x45 x49 x50 x51 x55 x56 x57 x58 x61 x62 x63 x64 x65 x66 =
  if x42 = true then
    if (decide (x41 ≤ x39)) = true then
      some false
    else
      laws_FnJubileesCome.l3 x38 x39 x40 x41 x45 x49 x50 x51 x55 x56 x57 x58 x61 x62 x63 x64 x65 x66 (IntKind.i64.wrap (x39 + 1))
  else
    laws_FnJubileesCome.j8 x38 x39 x45 x49 x50 x51 x55 x56 x57 x58 x61 x62 x63 x64 x65 x66 := (runJ_eq _ _ _ _ _ _).trans (by kernel_rfl)
theorem laws_FnJubileesCome.l3.eq (x38 : List Int) (x39 : Int) (x40 : Int) (x41 : Int) (x45 : List Int) (x49 : Int) (x50 : Int) (x51 : Bool) (x55 : List Int) (x56 : Int) (x57 : List Int) (x58 : Bool) (x61 : Int) (x62 : Int) (x63 : Int) (x64 : Int) (x65 : List Int) (x66 : Bool) (x72 : Int) : laws_FnJubileesCome.l3 x38 x39 x40 x41 x45 x49 x50 x51 x55 x56 x57 x58 x61 x62 x63 x64 x65 x66 x72 =
  if (decide (x72 ≤ x41)) = true then
    laws_FnJubileesCome.j7 x38 x39 x40 x41 x45 x49 x50 x51 x55 x56 x57 x58 x61 x62 x63 x64 x65 x66 x72 (if true = true then (decide (x72 < (IntKind.i64.wrap (x39 + 60)))) else false)
  else
    laws_FnJubileesCome.j7 x38 x39 x40 x41 x45 x49 x50 x51 x55 x56 x57 x58 x61 x62 x63 x64 x65 x66 x72 false := (runAt_loop _ _ _ _ _ _).trans (by kernel_rfl)
theorem laws_FnJubileesCome.j7.eq (x38 : List Int) (x39 : Int) (x40 : Int) (x41 : Int) (x45 : List Int) (x49 : Int) (x50 : Int) (x51 : Bool) (x55 : List Int) (x56 : Int) (x57 : List Int) (x58 : Bool) (x61 : Int) (x62 : Int) (x63 : Int) (x64 : Int) (x65 : List Int) (x66 : Bool) (x72 : Int) (x611 : Bool) : laws_FnJubileesCome.j7 x38 x39 x40 x41 x45 x49 x50 x51 x55 x56 x57 x58 x61 x62 x63 x64 x65 x66 x72 x611 =
  if x611 = true then
    (impl_JubileesIn.f x38 x72 x40).bind fun y1 =>
    if (!y1.2) = true then
      some false
    else
      if (if false = true then true else (!((decide ((y1.1.length : Int) > 0)) == (x72 == x41)))) = true then
        some false
      else
        laws_FnJubileesCome.l3 x38 x39 x40 x41 x45 x49 x50 x51 x55 x56 x57 x58 x61 x62 x63 x64 x65 x66 (IntKind.i64.wrap (x72 + 1))
  else
    laws_FnJubileesCome.j8 x38 x39 x45 x49 x50 x51 x55 x56 x57 x58 x61 x62 x63 x64 x65 x66 := (runJ_eq _ _ _ _ _ _).trans (by kernel_rfl)
theorem laws_FnJubileesCome.j8.eq (x38 : List Int) (x39 : Int) (x45 : List Int) (x49 : Int) (x50 : Int) (x51 : Bool) (x55 : List Int) (x56 : Int) (x57 : List Int) (x58 : Bool) (x61 : Int) (x62 : Int) (x63 : Int) (x64 : Int) (x65 : List Int) (x66 : Bool) : laws_FnJubileesCome.j8 x38 x39 x45 x49 x50 x51 x55 x56 x57 x58 x61 x62 x63 x64 x65 x66 =
  if x51 = true then
    (laws_qHas.f x45 x49).bind fun y1 =>
    if (!y1) = true then
      laws_FnJubileesCome.j9 x38 x39 x45 x49 x50 x55 x56 x57 x58 x61 x62 x63 x64 x65 x66 true
    else
      (rdI x38 x49).bind fun y12 =>
      laws_FnJubileesCome.j9 x38 x39 x45 x49 x50 x55 x56 x57 x58 x61 x62 x63 x64 x65 x66 (if false = true then true else ((IntKind.i64.wrap (x39 - y12)) != x50))
  else
    laws_FnJubileesCome.j10 x55 x56 x57 x58 x61 x62 x63 x64 x65 x66 := (runJ_eq _ _ _ _ _ _).trans (by kernel_rfl)
theorem laws_FnJubileesCome.j9.eq (x38 : List Int) (x39 : Int) (x45 : List Int) (x49 : Int) (x50 : Int) (x55 : List Int) (x56 : Int) (x57 : List Int) (x58 : Bool) (x61 : Int) (x62 : Int) (x63 : Int) (x64 : Int) (x65 : List Int) (x66 : Bool) (x646 : Bool) : laws_FnJubileesCome.j9 x38 x39 x45 x49 x50 x55 x56 x57 x58 x61 x62 x63 x64 x65 x66 x646 =
  if x646 = true then
    some false
  else
    laws_FnJubileesCome.l4 x38 x39 x45 x49 x50 x55 x56 x57 x58 x61 x62 x63 x64 x65 x66 (x45.length : Int) 0 := (runJ_eq _ _ _ _ _ _).trans (by kernel_rfl)
theorem laws_FnJubileesCome.l4.eq (x38 : List Int) (x39 : Int) (x45 : List Int) (x49 : Int) (x50 : Int) (x55 : List Int) (x56 : Int) (x57 : List Int) (x58 : Bool) (x61 : Int) (x62 : Int) (x63 : Int) (x64 : Int) (x65 : List Int) (x66 : Bool) (x648 : Int) (x649 : Int) : laws_FnJubileesCome.l4 x38 x39 x45 x49 x50 x55 x56 x57 x58 x61 x62 x63 x64 x65 x66 x648 x649 =
  if (decide (x649 < x648)) = true then
    (rdI x45 x649).bind fun y2 =>
    (rdI x38 y2).bind fun y3 =>
    let y4 := IntKind.i64.wrap (x39 - y3)
    if (decide (y4 > x50)) = true then
      some false
    else
      if (y4 == x50) = true then
        if (if false = true then true else (if true = true then (decide (y2 < x49)) else false)) = true then
          some false
        else
          laws_FnJubileesCome.l4 x38 x39 x45 x49 x50 x55 x56 x57 x58 x61 x62 x63 x64 x65 x66 x648 (IntKind.i64.wrap (x649 + 1))
      else
        laws_FnJubileesCome.l4 x38 x39 x45 x49 x50 x55 x56 x57 x58 x61 x62 x63 x64 x65 x66 x648 (IntKind.i64.wrap (x649 + 1))
  else
    laws_FnJubileesCome.j10 x55 x56 x57 x58 x61 x62 x63 x64 x65 x66 := (runAt_loop _ _ _ _ _ _).trans (by kernel_rfl)
theorem laws_FnJubileesCome.j10.eq (x55 : List Int) (x56 : Int) (x57 : List Int) (x58 : Bool) (x61 : Int) (x62 : Int) (x63 : Int) (x64 : Int) (x65 : List Int) (x66 : Bool) : laws_FnJubileesCome.j10 x55 x56 x57 x58 x61 x62 x63 x64 x65 x66 =
  if x58 = true then
    (laws_qRises.f x57).bind fun y1 =>
    if (!y1) = true then
      some false
    else
      laws_FnJubileesCome.l5 x55 x56 x57 x61 x62 x63 x64 x65 x66 (x57.length : Int) 0
  else
    laws_FnJubileesCome.j11 x61 x62 x63 x64 x65 x66 := (runJ_eq _ _ _ _ _ _).trans (by kernel_rfl)
theorem laws_FnJubileesCome.l5.eq (x55 : List Int) (x56 : Int) (x57 : List Int) (x61 : Int) (x62 : Int) (x63 : Int) (x64 : Int) (x65 : List Int) (x66 : Bool) (x678 : Int) (x679 : Int) : laws_FnJubileesCome.l5 x55 x56 x57 x61 x62 x63 x64 x65 x66 x678 x679 =
  if (decide (x679 < x678)) = true then
    (rdI x57 x679).bind fun y2 =>
    (impl_JubileesIn.f x55 y2 x56).bind fun y3 =>
    if (!y3.2) = true then
      some false
    else
      if (if false = true then true else (y3.1.length : Int) != (x55.length : Int)) = true then
        some false
      else
        laws_FnJubileesCome.l5 x55 x56 x57 x61 x62 x63 x64 x65 x66 x678 (IntKind.i64.wrap (x679 + 1))
  else
    laws_FnJubileesCome.j11 x61 x62 x63 x64 x65 x66 := (runAt_loop _ _ _ _ _ _).trans (by kernel_rfl)
theorem laws_FnJubileesCome.j11.eq (x61 : Int) (x62 : Int) (x63 : Int) (x64 : Int) (x65 : List Int) (x66 : Bool) : laws_FnJubileesCome.j11 x61 x62 x63 x64 x65 x66 =
  if x66 = true then
    laws_FnJubileesCome.l6 x61 x63 x64 x65 x62
  else
    some true := (runJ_eq _ _ _ _ _ _).trans (by kernel_rfl)
theorem laws_FnJubileesCome.l6.eq (x61 : Int) (x63 : Int) (x64 : Int) (x65 : List Int) (x82 : Int) : laws_FnJubileesCome.l6 x61 x63 x64 x65 x82 =
  if (decide (x82 ≤ x63)) = true then
    (laws_qHas.f x65 x82).bind fun y2 =>
    if (decide (x82 > x61)) = true then
      if x64 = 0 then
        none
      else
        if (!(y2 == (if true = true then ((IntKind.i64.wrap (x82 - x61)).tmod x64) == 0 else false))) = true then
          some false
        else
          laws_FnJubileesCome.l6 x61 x63 x64 x65 (IntKind.i64.wrap (x82 + 1))
    else
      if (!(y2 == false)) = true then
        some false
      else
        laws_FnJubileesCome.l6 x61 x63 x64 x65 (IntKind.i64.wrap (x82 + 1))
  else
    some true := (runAt_loop _ _ _ _ _ _).trans (by kernel_rfl)
end Go.Proofs.Ytkpoidakicgfbaa.S
