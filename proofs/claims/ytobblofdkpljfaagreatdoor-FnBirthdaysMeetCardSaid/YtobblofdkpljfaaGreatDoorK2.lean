/- What the functions of this seat come to, over plain values. No condition. -/
import Derived.Test.YtobblofdkpljfaaGreatDoorK1
namespace Go.Proofs.YtobblofdkpljfaaGreatDoor.S
open Go Go.Proofs.YtobblofdkpljfaaGreatDoor.Eng Go.Proofs
set_option maxRecDepth 1000000
set_option linter.unusedVariables false
noncomputable def spec_TwiceAsOld.g : Gam := [(46, spec_biDate.sp), (55, spec_biDays.sp), (56, spec_biBack.sp)]
theorem spec_TwiceAsOld.gok : GOkI Tryz.prog I spec_TwiceAsOld.g := (((GOkI.nil _ _).cons spec_biBack.ok).cons spec_biDays.ok).cons spec_biDate.ok
noncomputable def spec_TwiceAsOld.i : FI := ⟨Tryz.f29, body Tryz.f29, (.seq .nil (.seq (.cut [2, 3, 4, 20] [2, 3, 4] .nil (.cond (.seq .nil .nil) .nil)) (.seq .nil .nil))), [], [], [.res (.cell 4 25) (.v (.pair (.int .i64) (.int .i64))), .res (.tmp 5) (.v .bool)]⟩
noncomputable def spec_TwiceAsOld.sp : CSpec := mkSpec spec_TwiceAsOld.g T spec_TwiceAsOld.i
theorem spec_TwiceAsOld.ok : SpecOk Tryz.prog I 29 spec_TwiceAsOld.sp := mkSpec_ok hmix hI spec_TwiceAsOld.gok tok spec_TwiceAsOld.i Tryz.func29 (by kernel_rfl) (by kernel_rfl) (by kernel_rfl) (by kernel_rfl)
noncomputable def spec_TwiceAsOld.f (x0 : Int × Int) (x1 : Int × Int) : Option ((Int × Int) × Bool) := run spec_TwiceAsOld.g T spec_TwiceAsOld.i [.v (.pair (.int .i64) (.int .i64)) x0, .v (.pair (.int .i64) (.int .i64)) x1]
noncomputable def spec_TwiceAsOld.j0 (x20 : Bool) (xb2_0 : Int) (xb2_1 : Int) (xb3_0 : Int) (xb3_1 : Int) (xb4_0 : Int) (xb4_1 : Int) : Option ((Int × Int) × Bool) := runJ spec_TwiceAsOld.g T spec_TwiceAsOld.i [true, false, true] [(2, .ptr 2 0), (3, .ptr 3 0), (4, .ptr 4 0), (20, .val .bool x20)] [(2, [⟨(.int .i64), xb2_0⟩, ⟨(.int .i64), xb2_1⟩]), (3, [⟨(.int .i64), xb3_0⟩, ⟨(.int .i64), xb3_1⟩]), (4, [⟨(.int .i64), xb4_0⟩, ⟨(.int .i64), xb4_1⟩])]
theorem spec_TwiceAsOld.f.eq (x0 : Int × Int) (x1 : Int × Int) : spec_TwiceAsOld.f x0 x1 =
  (spec_biDate.f (x0.1, x0.2)).bind fun y1 =>
  if (!y1) = true then
    spec_TwiceAsOld.j0 true x0.1 x0.2 x1.1 x1.2 0 0
  else
    (spec_biDate.f (x1.1, x1.2)).bind fun y6 =>
    if (if false = true then true else !y6) = true then
      spec_TwiceAsOld.j0 true x0.1 x0.2 x1.1 x1.2 0 0
    else
      (spec_biDays.f (x1.1, x1.2)).bind fun y8 =>
      (spec_biDays.f (x0.1, x0.2)).bind fun y9 =>
      spec_TwiceAsOld.j0 (if false = true then true else (decide (y8 ≤ y9))) x0.1 x0.2 x1.1 x1.2 0 0 := by kernel_rfl
theorem spec_TwiceAsOld.j0.eq (x20 : Bool) (xb2_0 : Int) (xb2_1 : Int) (xb3_0 : Int) (xb3_1 : Int) (xb4_0 : Int) (xb4_1 : Int) : spec_TwiceAsOld.j0 x20 xb2_0 xb2_1 xb3_0 xb3_1 xb4_0 xb4_1 =
  if x20 = true then
    some ((0, 0), false)
  else
    (spec_biDays.f (xb3_0, xb3_1)).bind fun y1 =>
    (spec_biDays.f (xb2_0, xb2_1)).bind fun y3 =>
    (spec_biBack.f (IntKind.i64.wrap ((IntKind.i64.wrap (2 * y1)) - y3))).bind fun y5 =>
    some ((y5.1.1, y5.1.2), y5.2) := (runJ_eq _ _ _ _ _ _).trans (by kernel_rfl)
noncomputable def spec_GreatestGap.g : Gam := [(46, spec_biDate.sp), (48, spec_biAge.sp), (55, spec_biDays.sp)]
theorem spec_GreatestGap.gok : GOkI Tryz.prog I spec_GreatestGap.g := (((GOkI.nil _ _).cons spec_biDays.ok).cons spec_biAge.ok).cons spec_biDate.ok
noncomputable def spec_GreatestGap.i : FI := ⟨Tryz.f30, body Tryz.f30, (.seq .nil (.seq (.cut [2, 3, 22] [2, 3] .nil (.cond (.seq .nil .nil) .nil)) (.seq .nil (.seq (.seq .nil (.cond (.seq .nil .nil) .nil)) (.seq .nil .nil))))), [], [], [.res (.tmp 4) (.v (.int .i64)), .res (.tmp 5) (.v (.int .i64)), .res (.tmp 6) (.v .bool)]⟩
noncomputable def spec_GreatestGap.sp : CSpec := mkSpec spec_GreatestGap.g T spec_GreatestGap.i
theorem spec_GreatestGap.ok : SpecOk Tryz.prog I 30 spec_GreatestGap.sp := mkSpec_ok hmix hI spec_GreatestGap.gok tok spec_GreatestGap.i Tryz.func30 (by kernel_rfl) (by kernel_rfl) (by kernel_rfl) (by kernel_rfl)
noncomputable def spec_GreatestGap.f (x0 : Int × Int) (x1 : Int × Int) : Option (Int × Int × Bool) := run spec_GreatestGap.g T spec_GreatestGap.i [.v (.pair (.int .i64) (.int .i64)) x0, .v (.pair (.int .i64) (.int .i64)) x1]
noncomputable def spec_GreatestGap.j0 (x22 : Bool) (xb2_0 : Int) (xb2_1 : Int) (xb3_0 : Int) (xb3_1 : Int) : Option (Int × Int × Bool) := runJ spec_GreatestGap.g T spec_GreatestGap.i [true, false, true] [(2, .ptr 2 0), (3, .ptr 3 0), (22, .val .bool x22)] [(2, [⟨(.int .i64), xb2_0⟩, ⟨(.int .i64), xb2_1⟩]), (3, [⟨(.int .i64), xb3_0⟩, ⟨(.int .i64), xb3_1⟩])]
theorem spec_GreatestGap.f.eq (x0 : Int × Int) (x1 : Int × Int) : spec_GreatestGap.f x0 x1 =
  (spec_biDate.f (x0.1, x0.2)).bind fun y1 =>
  if (!y1) = true then
    spec_GreatestGap.j0 true x0.1 x0.2 x1.1 x1.2
  else
    (spec_biDate.f (x1.1, x1.2)).bind fun y4 =>
    if (if false = true then true else !y4) = true then
      spec_GreatestGap.j0 true x0.1 x0.2 x1.1 x1.2
    else
      (spec_biDays.f (x0.1, x0.2)).bind fun y6 =>
      (spec_biDays.f (x1.1, x1.2)).bind fun y7 =>
      spec_GreatestGap.j0 (if false = true then true else (decide (y6 > y7))) x0.1 x0.2 x1.1 x1.2 := by kernel_rfl
theorem spec_GreatestGap.j0.eq (x22 : Bool) (xb2_0 : Int) (xb2_1 : Int) (xb3_0 : Int) (xb3_1 : Int) : spec_GreatestGap.j0 x22 xb2_0 xb2_1 xb3_0 xb3_1 =
  if x22 = true then
    some (0, 0, false)
  else
    (spec_biAge.f (xb2_0, xb2_1) (xb3_0, xb3_1)).bind fun y1 =>
    if (xb2_1 == xb3_1) = true then
      some (y1, y1, true)
    else
      some (y1, (IntKind.i64.wrap (y1 + 1)), true) := (runJ_eq _ _ _ _ _ _).trans (by kernel_rfl)
noncomputable def spec_DrawAgeOn.g : Gam := [(41, spec_l1Cur_sureDate.sp), (74, spec_l1Cur_date.sp)]
theorem spec_DrawAgeOn.gok : GOkI Tryz.prog I spec_DrawAgeOn.g := ((GOkI.nil _ _).cons spec_l1Cur_date.ok).cons spec_l1Cur_sureDate.ok
noncomputable def spec_DrawAgeOn.i : FI := ⟨Tryz.f71, body Tryz.f71, (.seq .nil (.seq .nil (.seq .nil (.seq .nil .nil)))), [], [], [.res (.cell 2 25) (.v (.pair (.int .i64) (.int .i64))), .res (.cell 3 25) (.v (.pair (.int .i64) (.int .i64)))]⟩
noncomputable def spec_DrawAgeOn.sp : CSpec := mkSpec spec_DrawAgeOn.g T spec_DrawAgeOn.i
theorem spec_DrawAgeOn.ok : SpecOk Tryz.prog I 71 spec_DrawAgeOn.sp := mkSpec_ok hmix hI spec_DrawAgeOn.gok tok spec_DrawAgeOn.i Tryz.func71 (by kernel_rfl) (by kernel_rfl) (by kernel_rfl) (by kernel_rfl)
noncomputable def spec_DrawAgeOn.f (x0 : List Int) : Option ((Int × Int) × (Int × Int)) := run spec_DrawAgeOn.g T spec_DrawAgeOn.i [.v (.slice (.int .u8)) x0]
theorem spec_DrawAgeOn.f.eq (x0 : List Int) : spec_DrawAgeOn.f x0 =
  (spec_l1Cur_sureDate.f x0 0 0).bind fun y1 =>
  (spec_l1Cur_date.f y1.2.1 y1.2.2.1 y1.2.2.2).bind fun y2 =>
  some ((y1.1.1, y1.1.2), y2.1.1, y2.1.2) := by kernel_rfl
noncomputable def spec_DrawHalfBirthday.g : Gam := [(71, spec_DrawAgeOn.sp)]
theorem spec_DrawHalfBirthday.gok : GOkI Tryz.prog I spec_DrawHalfBirthday.g := (GOkI.nil _ _).cons spec_DrawAgeOn.ok
noncomputable def spec_DrawHalfBirthday.i : FI := ⟨Tryz.f31, body Tryz.f31, (.seq .nil (.seq .nil .nil)), [], [], [.res (.cell 2 25) (.v (.pair (.int .i64) (.int .i64))), .res (.cell 3 25) (.v (.pair (.int .i64) (.int .i64)))]⟩
noncomputable def spec_DrawHalfBirthday.sp : CSpec := mkSpec spec_DrawHalfBirthday.g T spec_DrawHalfBirthday.i
theorem spec_DrawHalfBirthday.ok : SpecOk Tryz.prog I 31 spec_DrawHalfBirthday.sp := mkSpec_ok hmix hI spec_DrawHalfBirthday.gok tok spec_DrawHalfBirthday.i Tryz.func31 (by kernel_rfl) (by kernel_rfl) (by kernel_rfl) (by kernel_rfl)
noncomputable def spec_DrawHalfBirthday.f (x0 : List Int) : Option ((Int × Int) × (Int × Int)) := run spec_DrawHalfBirthday.g T spec_DrawHalfBirthday.i [.v (.slice (.int .u8)) x0]
theorem spec_DrawHalfBirthday.f.eq (x0 : List Int) : spec_DrawHalfBirthday.f x0 =
  (spec_DrawAgeOn.f x0).bind fun y1 =>
  some ((y1.1.1, y1.1.2), y1.2.1, y1.2.2) := by kernel_rfl
noncomputable def impl_HalfBirthday.g : Gam := [(72, impl_areBornOn.sp), (60, impl_Date_index.sp), (53, impl_dateAt.sp)]
theorem impl_HalfBirthday.gok : GOkI Tryz.prog I impl_HalfBirthday.g := (((GOkI.nil _ _).cons impl_dateAt.ok).cons impl_Date_index.ok).cons impl_areBornOn.ok
noncomputable def impl_HalfBirthday.i : FI := ⟨Tryz.f32, body Tryz.f32, (.seq .nil (.seq (.seq .nil (.cond (.seq .nil .nil) .nil)) (.seq .nil (.seq (.blk (.loop [3, 4, 6] [3, 4] (.seq (.seq .nil (.cond .nil .nil)) (.blk .nil)))) (.seq .nil .nil))))), [], [], [.res (.cell 4 25) (.v (.pair (.int .i64) (.int .i64))), .res (.tmp 5) (.v .bool)]⟩
noncomputable def impl_HalfBirthday.sp : CSpec := mkSpec impl_HalfBirthday.g T impl_HalfBirthday.i
theorem impl_HalfBirthday.ok : SpecOk Tryz.prog I 32 impl_HalfBirthday.sp := mkSpec_ok hmix hI impl_HalfBirthday.gok tok impl_HalfBirthday.i Tryz.func32 (by kernel_rfl) (by kernel_rfl) (by kernel_rfl) (by kernel_rfl)
noncomputable def impl_HalfBirthday.f (x0 : Int × Int) (x1 : Int × Int) : Option ((Int × Int) × Bool) := run impl_HalfBirthday.g T impl_HalfBirthday.i [.v (.pair (.int .i64) (.int .i64)) x0, .v (.pair (.int .i64) (.int .i64)) x1]
noncomputable def impl_HalfBirthday.l0 (x6 : Int) (xb3_0 : Int) (xb3_1 : Int) (xb4_0 : Int) (xb4_1 : Int) : Option ((Int × Int) × Bool) := runAt impl_HalfBirthday.g T impl_HalfBirthday.i [true, true, true, false, false] [(3, .ptr 3 0), (4, .ptr 4 0), (6, .val (.int .i64) x6)] [(3, [⟨(.int .i64), xb3_0⟩, ⟨(.int .i64), xb3_1⟩]), (4, [⟨(.int .i64), xb4_0⟩, ⟨(.int .i64), xb4_1⟩])]
theorem impl_HalfBirthday.f.eq (x0 : Int × Int) (x1 : Int × Int) : impl_HalfBirthday.f x0 x1 =
  (impl_areBornOn.f [(x0.1, x0.2)] (x1.1, x1.2)).bind fun y1 =>
  if (!y1) = true then
    some ((0, 0), false)
  else
    (impl_Date_index.f (x0.1, x0.2)).bind fun y2 =>
    impl_HalfBirthday.l0 (IntKind.i64.wrap (y2 + 182)) x1.1 x1.2 0 0 := by kernel_rfl
theorem impl_HalfBirthday.l0.eq (x6 : Int) (xb3_0 : Int) (xb3_1 : Int) (xb4_0 : Int) (xb4_1 : Int) : impl_HalfBirthday.l0 x6 xb3_0 xb3_1 xb4_0 xb4_1 =
  (impl_Date_index.f (xb3_0, xb3_1)).bind fun y1 =>
  if (decide (x6 ≤ y1)) = true then
    impl_HalfBirthday.l0 (IntKind.i64.wrap (x6 + 365)) xb3_0 xb3_1 xb4_0 xb4_1
  else
    (impl_dateAt.f x6).bind fun y4 =>
    some ((y4.1.1, y4.1.2), y4.2) := (runAt_loop _ _ _ _ _ _).trans (by kernel_rfl)
noncomputable def spec_biBorn.g : Gam := [(46, spec_biDate.sp), (55, spec_biDays.sp)]
theorem spec_biBorn.gok : GOkI Tryz.prog I spec_biBorn.g := ((GOkI.nil _ _).cons spec_biDays.ok).cons spec_biDate.ok
noncomputable def spec_biBorn.i : FI := ⟨Tryz.f73, body Tryz.f73, (.seq .nil (.seq .nil .nil)), [], [], [.res (.tmp 4) (.v .bool)]⟩
noncomputable def spec_biBorn.sp : CSpec := mkSpec spec_biBorn.g T spec_biBorn.i
theorem spec_biBorn.ok : SpecOk Tryz.prog I 73 spec_biBorn.sp := mkSpec_ok hmix hI spec_biBorn.gok tok spec_biBorn.i Tryz.func73 (by kernel_rfl) (by kernel_rfl) (by kernel_rfl) (by kernel_rfl)
noncomputable def spec_biBorn.f (x0 : Int × Int) (x1 : Int × Int) : Option (Bool) := run spec_biBorn.g T spec_biBorn.i [.v (.pair (.int .i64) (.int .i64)) x0, .v (.pair (.int .i64) (.int .i64)) x1]
theorem spec_biBorn.f.eq (x0 : Int × Int) (x1 : Int × Int) : spec_biBorn.f x0 x1 =
  (spec_biDate.f (x0.1, x0.2)).bind fun y1 =>
  if y1 = true then
    (spec_biDate.f (x1.1, x1.2)).bind fun y2 =>
    if (if true = true then y2 else false) = true then
      (spec_biDays.f (x1.1, x1.2)).bind fun y4 =>
      (spec_biDays.f (x0.1, x0.2)).bind fun y5 =>
      some (if true = true then (decide (y4 ≥ y5)) else false)
    else
      some false
  else
    some false := by kernel_rfl
noncomputable def spec_HalfBirthday.g : Gam := [(73, spec_biBorn.sp), (55, spec_biDays.sp), (56, spec_biBack.sp)]
theorem spec_HalfBirthday.gok : GOkI Tryz.prog I spec_HalfBirthday.g := (((GOkI.nil _ _).cons spec_biBack.ok).cons spec_biDays.ok).cons spec_biBorn.ok
noncomputable def spec_HalfBirthday.i : FI := ⟨Tryz.f33, body Tryz.f33, (.seq .nil (.seq (.seq .nil (.cond (.seq .nil .nil) .nil)) (.seq .nil (.seq (.blk (.loop [3, 4, 6] [3, 4] (.seq (.seq .nil (.cond .nil .nil)) (.blk .nil)))) (.seq .nil .nil))))), [], [], [.res (.cell 4 25) (.v (.pair (.int .i64) (.int .i64))), .res (.tmp 5) (.v .bool)]⟩
noncomputable def spec_HalfBirthday.sp : CSpec := mkSpec spec_HalfBirthday.g T spec_HalfBirthday.i
theorem spec_HalfBirthday.ok : SpecOk Tryz.prog I 33 spec_HalfBirthday.sp := mkSpec_ok hmix hI spec_HalfBirthday.gok tok spec_HalfBirthday.i Tryz.func33 (by kernel_rfl) (by kernel_rfl) (by kernel_rfl) (by kernel_rfl)
noncomputable def spec_HalfBirthday.f (x0 : Int × Int) (x1 : Int × Int) : Option ((Int × Int) × Bool) := run spec_HalfBirthday.g T spec_HalfBirthday.i [.v (.pair (.int .i64) (.int .i64)) x0, .v (.pair (.int .i64) (.int .i64)) x1]
noncomputable def spec_HalfBirthday.l0 (x6 : Int) (xb3_0 : Int) (xb3_1 : Int) (xb4_0 : Int) (xb4_1 : Int) : Option ((Int × Int) × Bool) := runAt spec_HalfBirthday.g T spec_HalfBirthday.i [true, true, true, false, false] [(3, .ptr 3 0), (4, .ptr 4 0), (6, .val (.int .i64) x6)] [(3, [⟨(.int .i64), xb3_0⟩, ⟨(.int .i64), xb3_1⟩]), (4, [⟨(.int .i64), xb4_0⟩, ⟨(.int .i64), xb4_1⟩])]
theorem spec_HalfBirthday.f.eq (x0 : Int × Int) (x1 : Int × Int) : spec_HalfBirthday.f x0 x1 =
  (spec_biBorn.f (x0.1, x0.2) (x1.1, x1.2)).bind fun y1 =>
  if (!y1) = true then
    some ((0, 0), false)
  else
    (spec_biDays.f (x0.1, x0.2)).bind fun y2 =>
    spec_HalfBirthday.l0 (IntKind.i64.wrap (y2 + 182)) x1.1 x1.2 0 0 := by kernel_rfl
theorem spec_HalfBirthday.l0.eq (x6 : Int) (xb3_0 : Int) (xb3_1 : Int) (xb4_0 : Int) (xb4_1 : Int) : spec_HalfBirthday.l0 x6 xb3_0 xb3_1 xb4_0 xb4_1 =
  (spec_biDays.f (xb3_0, xb3_1)).bind fun y1 =>
  if (decide (x6 ≤ y1)) = true then
    spec_HalfBirthday.l0 (IntKind.i64.wrap (x6 + 365)) xb3_0 xb3_1 xb4_0 xb4_1
  else
    (spec_biBack.f x6).bind fun y4 =>
    some ((y4.1.1, y4.1.2), y4.2) := (runAt_loop _ _ _ _ _ _).trans (by kernel_rfl)
noncomputable def spec_DrawDayOfDaysOld.g : Gam := [(74, spec_l1Cur_date.sp), (42, spec_l1Cur_among.sp)]
theorem spec_DrawDayOfDaysOld.gok : GOkI Tryz.prog I spec_DrawDayOfDaysOld.g := ((GOkI.nil _ _).cons spec_l1Cur_among.ok).cons spec_l1Cur_date.ok
noncomputable def spec_DrawDayOfDaysOld.i : FI := ⟨Tryz.f34, body Tryz.f34, (.seq .nil (.seq .nil (.seq .nil (.seq .nil .nil)))), [], [], [.res (.cell 2 25) (.v (.pair (.int .i64) (.int .i64))), .res (.tmp 3) (.v (.int .i64))]⟩
noncomputable def spec_DrawDayOfDaysOld.sp : CSpec := mkSpec spec_DrawDayOfDaysOld.g T spec_DrawDayOfDaysOld.i
theorem spec_DrawDayOfDaysOld.ok : SpecOk Tryz.prog I 34 spec_DrawDayOfDaysOld.sp := mkSpec_ok hmix hI spec_DrawDayOfDaysOld.gok tok spec_DrawDayOfDaysOld.i Tryz.func34 (by kernel_rfl) (by kernel_rfl) (by kernel_rfl) (by kernel_rfl)
noncomputable def spec_DrawDayOfDaysOld.f (x0 : List Int) : Option ((Int × Int) × Int) := run spec_DrawDayOfDaysOld.g T spec_DrawDayOfDaysOld.i [.v (.slice (.int .u8)) x0]
theorem spec_DrawDayOfDaysOld.f.eq (x0 : List Int) : spec_DrawDayOfDaysOld.f x0 =
  (spec_l1Cur_date.f x0 0 0).bind fun y1 =>
  (spec_l1Cur_among.f y1.2.1 y1.2.2.1 y1.2.2.2 [0, 1, 100, 10000, 1000000, 1000001, (-1)]).bind fun y2 =>
  some ((y1.1.1, y1.1.2), y2.1) := by kernel_rfl
noncomputable def impl_DayOfDaysOld.g : Gam := [(43, impl_IsDate.sp), (60, impl_Date_index.sp), (53, impl_dateAt.sp), (44, impl_between.sp)]
theorem impl_DayOfDaysOld.gok : GOkI Tryz.prog I impl_DayOfDaysOld.g := ((((GOkI.nil _ _).cons impl_between.ok).cons impl_dateAt.ok).cons impl_Date_index.ok).cons impl_IsDate.ok
noncomputable def impl_DayOfDaysOld.i : FI := ⟨Tryz.f35, body Tryz.f35, (.seq .nil (.seq (.cut [1, 2, 4, 13] [2, 4] .nil (.cond (.seq .nil .nil) .nil)) (.seq .nil .nil))), [], [], [.res (.cell 4 25) (.v (.pair (.int .i64) (.int .i64))), .res (.tmp 5) (.v .bool)]⟩
noncomputable def impl_DayOfDaysOld.sp : CSpec := mkSpec impl_DayOfDaysOld.g T impl_DayOfDaysOld.i
theorem impl_DayOfDaysOld.ok : SpecOk Tryz.prog I 35 impl_DayOfDaysOld.sp := mkSpec_ok hmix hI impl_DayOfDaysOld.gok tok impl_DayOfDaysOld.i Tryz.func35 (by kernel_rfl) (by kernel_rfl) (by kernel_rfl) (by kernel_rfl)
noncomputable def impl_DayOfDaysOld.f (x0 : Int × Int) (x1 : Int) : Option ((Int × Int) × Bool) := run impl_DayOfDaysOld.g T impl_DayOfDaysOld.i [.v (.pair (.int .i64) (.int .i64)) x0, .v (.int .i64) x1]
noncomputable def impl_DayOfDaysOld.j0 (x1 : Int) (x13 : Bool) (xb2_0 : Int) (xb2_1 : Int) (xb4_0 : Int) (xb4_1 : Int) : Option ((Int × Int) × Bool) := runJ impl_DayOfDaysOld.g T impl_DayOfDaysOld.i [true, false, true] [(1, .val (.int .i64) x1), (2, .ptr 2 0), (4, .ptr 4 0), (13, .val .bool x13)] [(2, [⟨(.int .i64), xb2_0⟩, ⟨(.int .i64), xb2_1⟩]), (4, [⟨(.int .i64), xb4_0⟩, ⟨(.int .i64), xb4_1⟩])]
theorem impl_DayOfDaysOld.f.eq (x0 : Int × Int) (x1 : Int) : impl_DayOfDaysOld.f x0 x1 =
  (impl_IsDate.f (x0.1, x0.2)).bind fun y1 =>
  if (!y1) = true then
    impl_DayOfDaysOld.j0 x1 true x0.1 x0.2 0 0
  else
    (impl_between.f x1 0 1000000).bind fun y4 =>
    impl_DayOfDaysOld.j0 x1 (if false = true then true else !y4) x0.1 x0.2 0 0 := by kernel_rfl
theorem impl_DayOfDaysOld.j0.eq (x1 : Int) (x13 : Bool) (xb2_0 : Int) (xb2_1 : Int) (xb4_0 : Int) (xb4_1 : Int) : impl_DayOfDaysOld.j0 x1 x13 xb2_0 xb2_1 xb4_0 xb4_1 =
  if x13 = true then
    some ((0, 0), false)
  else
    (impl_Date_index.f (xb2_0, xb2_1)).bind fun y1 =>
    (impl_dateAt.f (IntKind.i64.wrap (y1 + x1))).bind fun y3 =>
    some ((y3.1.1, y3.1.2), y3.2) := (runJ_eq _ _ _ _ _ _).trans (by kernel_rfl)
noncomputable def spec_DayOfDaysOld.g : Gam := [(46, spec_biDate.sp), (55, spec_biDays.sp), (56, spec_biBack.sp), (47, spec_l1In.sp)]
theorem spec_DayOfDaysOld.gok : GOkI Tryz.prog I spec_DayOfDaysOld.g := ((((GOkI.nil _ _).cons spec_l1In.ok).cons spec_biBack.ok).cons spec_biDays.ok).cons spec_biDate.ok
noncomputable def spec_DayOfDaysOld.i : FI := ⟨Tryz.f36, body Tryz.f36, (.seq .nil (.seq (.cut [1, 2, 4, 13] [2, 4] .nil (.cond (.seq .nil .nil) .nil)) (.seq .nil .nil))), [], [], [.res (.cell 4 25) (.v (.pair (.int .i64) (.int .i64))), .res (.tmp 5) (.v .bool)]⟩
noncomputable def spec_DayOfDaysOld.sp : CSpec := mkSpec spec_DayOfDaysOld.g T spec_DayOfDaysOld.i
theorem spec_DayOfDaysOld.ok : SpecOk Tryz.prog I 36 spec_DayOfDaysOld.sp := mkSpec_ok hmix hI spec_DayOfDaysOld.gok tok spec_DayOfDaysOld.i Tryz.func36 (by kernel_rfl) (by kernel_rfl) (by kernel_rfl) (by kernel_rfl)
noncomputable def spec_DayOfDaysOld.f (x0 : Int × Int) (x1 : Int) : Option ((Int × Int) × Bool) := run spec_DayOfDaysOld.g T spec_DayOfDaysOld.i [.v (.pair (.int .i64) (.int .i64)) x0, .v (.int .i64) x1]
noncomputable def spec_DayOfDaysOld.j0 (x1 : Int) (x13 : Bool) (xb2_0 : Int) (xb2_1 : Int) (xb4_0 : Int) (xb4_1 : Int) : Option ((Int × Int) × Bool) := runJ spec_DayOfDaysOld.g T spec_DayOfDaysOld.i [true, false, true] [(1, .val (.int .i64) x1), (2, .ptr 2 0), (4, .ptr 4 0), (13, .val .bool x13)] [(2, [⟨(.int .i64), xb2_0⟩, ⟨(.int .i64), xb2_1⟩]), (4, [⟨(.int .i64), xb4_0⟩, ⟨(.int .i64), xb4_1⟩])]
theorem spec_DayOfDaysOld.f.eq (x0 : Int × Int) (x1 : Int) : spec_DayOfDaysOld.f x0 x1 =
  (spec_biDate.f (x0.1, x0.2)).bind fun y1 =>
  if (!y1) = true then
    spec_DayOfDaysOld.j0 x1 true x0.1 x0.2 0 0
  else
    (spec_l1In.f x1 0 1000000).bind fun y4 =>
    spec_DayOfDaysOld.j0 x1 (if false = true then true else !y4) x0.1 x0.2 0 0 := by kernel_rfl
theorem spec_DayOfDaysOld.j0.eq (x1 : Int) (x13 : Bool) (xb2_0 : Int) (xb2_1 : Int) (xb4_0 : Int) (xb4_1 : Int) : spec_DayOfDaysOld.j0 x1 x13 xb2_0 xb2_1 xb4_0 xb4_1 =
  if x13 = true then
    some ((0, 0), false)
  else
    (spec_biDays.f (xb2_0, xb2_1)).bind fun y1 =>
    (spec_biBack.f (IntKind.i64.wrap (y1 + x1))).bind fun y3 =>
    some ((y3.1.1, y3.1.2), y3.2) := (runJ_eq _ _ _ _ _ _).trans (by kernel_rfl)
noncomputable def spec_l1Cur_spoilt.g : Gam := [(79, spec_l1Cur_pick.sp)]
theorem spec_l1Cur_spoilt.gok : GOkI Tryz.prog I spec_l1Cur_spoilt.g := (GOkI.nil _ _).cons spec_l1Cur_pick.ok
noncomputable def spec_l1Cur_spoilt.i : FI := ⟨Tryz.f77, body Tryz.f77, (.seq .nil (.seq (.seq .nil (.blk (.loop [0, 1, 2, 7] [1000000] (.seq (.cut [0, 1, 2, 7, 19] [1000000] .nil (.cond .nil .nil)) (.seq (.blk (.seq .nil (.seq .nil (.seq .nil (.blk (.seq .nil (.cond .nil (.seq .nil (.cond .nil .nil))))))))) .nil))))) (.seq .nil .nil))), [], [1000000], [.res (.tmp 6) (.v .str), .box 1000000 0 (.slice (.int .u8)), .box 1000000 1 (.int .i64), .box 1000000 2 (.int .u64)]⟩
noncomputable def spec_l1Cur_spoilt.sp : CSpec := mkSpec spec_l1Cur_spoilt.g T spec_l1Cur_spoilt.i
theorem spec_l1Cur_spoilt.ok : SpecOk Tryz.prog I 77 spec_l1Cur_spoilt.sp := mkSpec_ok hmix hI spec_l1Cur_spoilt.gok tok spec_l1Cur_spoilt.i Tryz.func77 (by kernel_rfl) (by kernel_rfl) (by kernel_rfl) (by kernel_rfl)
noncomputable def spec_l1Cur_spoilt.f (x0_0 : List Int) (x0_1 : Int) (x0_2 : Int) (x1 : List UInt8) (x2 : List UInt8) : Option ((List UInt8) × (List Int) × Int × Int) := run spec_l1Cur_spoilt.g T spec_l1Cur_spoilt.i [.bx [⟨(.slice (.int .u8)), x0_0⟩, ⟨(.int .i64), x0_1⟩, ⟨(.int .u64), x0_2⟩], .v .str x1, .v .str x2]
noncomputable def spec_l1Cur_spoilt.l0 (x1 : List UInt8) (x2 : List UInt8) (x7 : Int) (x0_0 : List Int) (x0_1 : Int) (x0_2 : Int) : Option ((List UInt8) × (List Int) × Int × Int) := runAt spec_l1Cur_spoilt.g T spec_l1Cur_spoilt.i [true, false, true, false] [(0, .ptr 1000000 0), (1, .val .str x1), (2, .val .str x2), (7, .val (.int .i64) x7)] [(1000000, [⟨(.slice (.int .u8)), x0_0⟩, ⟨(.int .i64), x0_1⟩, ⟨(.int .u64), x0_2⟩])]
noncomputable def spec_l1Cur_spoilt.j0 (x1 : List UInt8) (x2 : List UInt8) (x7 : Int) (x19 : Bool) (x0_0 : List Int) (x0_1 : Int) (x0_2 : Int) : Option ((List UInt8) × (List Int) × Int × Int) := runJ spec_l1Cur_spoilt.g T spec_l1Cur_spoilt.i [true, false, true, false, false, false, true] [(0, .ptr 1000000 0), (1, .val .str x1), (2, .val .str x2), (7, .val (.int .i64) x7), (19, .val .bool x19)] [(1000000, [⟨(.slice (.int .u8)), x0_0⟩, ⟨(.int .i64), x0_1⟩, ⟨(.int .u64), x0_2⟩])]
theorem spec_l1Cur_spoilt.f.eq (x0_0 : List Int) (x0_1 : Int) (x0_2 : Int) (x1 : List UInt8) (x2 : List UInt8) : spec_l1Cur_spoilt.f x0_0 x0_1 x0_2 x1 x2 =
  (spec_l1Cur_pick.f x0_0 x0_1 x0_2 2).bind fun y1 =>
  spec_l1Cur_spoilt.l0 x1 x2 (IntKind.i64.wrap (1 + y1.1)) y1.2.1 y1.2.2.1 y1.2.2.2 := by kernel_rfl
theorem spec_l1Cur_spoilt.l0.eq (x1 : List UInt8) (x2 : List UInt8) (x7 : Int) (x0_0 : List Int) (x0_1 : Int) (x0_2 : Int) : spec_l1Cur_spoilt.l0 x1 x2 x7 x0_0 x0_1 x0_2 =
  if (decide (x7 > 0)) = true then
    spec_l1Cur_spoilt.j0 x1 x2 x7 (if true = true then (decide ((x1.length : Int) > 0)) else false) x0_0 x0_1 x0_2
  else
    spec_l1Cur_spoilt.j0 x1 x2 x7 false x0_0 x0_1 x0_2 := (runAt_loop _ _ _ _ _ _).trans (by kernel_rfl)
theorem spec_l1Cur_spoilt.j0.eq (x1 : List UInt8) (x2 : List UInt8) (x7 : Int) (x19 : Bool) (x0_0 : List Int) (x0_1 : Int) (x0_2 : Int) : spec_l1Cur_spoilt.j0 x1 x2 x7 x19 x0_0 x0_1 x0_2 =
  if x19 = true then
    (spec_l1Cur_pick.f x0_0 x0_1 x0_2 (x1.length : Int)).bind fun y2 =>
    (spec_l1Cur_pick.f y2.2.1 y2.2.2.1 y2.2.2.2 (x2.length : Int)).bind fun y4 =>
    (rdI x2 y4.1).bind fun y5 =>
    (spec_l1Cur_pick.f y4.2.1 y4.2.2.1 y4.2.2.2 3).bind fun y7 =>
    if (y7.1 == 0) = true then
      (subI x1 0 y2.1).bind fun y9 =>
      (catI strMax y9 ([(y5.toNat : Int)].map fun n => UInt8.ofNat n.toNat)).bind fun y10 =>
      (subI x1 y2.1 x1.length).bind fun y11 =>
      (catI strMax y10 y11).bind fun y12 =>
      spec_l1Cur_spoilt.l0 y12 x2 (IntKind.i64.wrap (x7 - 1)) y7.2.1 y7.2.2.1 y7.2.2.2
    else
      if (y7.1 == 1) = true then
        (subI x1 0 y2.1).bind fun y15 =>
        (catI strMax y15 ([(y5.toNat : Int)].map fun n => UInt8.ofNat n.toNat)).bind fun y16 =>
        (subI x1 (IntKind.i64.wrap (y2.1 + 1)) x1.length).bind fun y18 =>
        (catI strMax y16 y18).bind fun y19 =>
        spec_l1Cur_spoilt.l0 y19 x2 (IntKind.i64.wrap (x7 - 1)) y7.2.1 y7.2.2.1 y7.2.2.2
      else
        (subI x1 0 y2.1).bind fun y21 =>
        (subI x1 (IntKind.i64.wrap (y2.1 + 1)) x1.length).bind fun y23 =>
        (catI strMax y21 y23).bind fun y24 =>
        spec_l1Cur_spoilt.l0 y24 x2 (IntKind.i64.wrap (x7 - 1)) y7.2.1 y7.2.2.1 y7.2.2.2
  else
    some (x1, x0_0, x0_1, x0_2) := (runJ_eq _ _ _ _ _ _).trans (by kernel_rfl)
noncomputable def spec_DrawParseBirths.g : Gam := [(75, spec_l1Cur_sureBirths.sp), (64, spec_biText.sp), (76, spec_l1Cur_one.sp), (77, spec_l1Cur_spoilt.sp)]
theorem spec_DrawParseBirths.gok : GOkI Tryz.prog I spec_DrawParseBirths.g := ((((GOkI.nil _ _).cons spec_l1Cur_spoilt.ok).cons spec_l1Cur_one.ok).cons spec_biText.ok).cons spec_l1Cur_sureBirths.ok
noncomputable def spec_DrawParseBirths.i : FI := ⟨Tryz.f37, body Tryz.f37, (.seq .nil (.seq .nil (.seq .nil (.seq (.seq .nil (.cond (.seq .nil .nil) .nil)) (.seq .nil .nil))))), [], [], [.res (.tmp 2) (.v .str)]⟩
noncomputable def spec_DrawParseBirths.sp : CSpec := mkSpec spec_DrawParseBirths.g T spec_DrawParseBirths.i
theorem spec_DrawParseBirths.ok : SpecOk Tryz.prog I 37 spec_DrawParseBirths.sp := mkSpec_ok hmix hI spec_DrawParseBirths.gok tok spec_DrawParseBirths.i Tryz.func37 (by kernel_rfl) (by kernel_rfl) (by kernel_rfl) (by kernel_rfl)
noncomputable def spec_DrawParseBirths.f (x0 : List Int) : Option (List UInt8) := run spec_DrawParseBirths.g T spec_DrawParseBirths.i [.v (.slice (.int .u8)) x0]
theorem spec_DrawParseBirths.f.eq (x0 : List Int) : spec_DrawParseBirths.f x0 =
  (spec_l1Cur_sureBirths.f x0 0 0).bind fun y1 =>
  (spec_biText.f y1.1).bind fun y2 =>
  (spec_l1Cur_one.f y1.2.1 y1.2.2.1 y1.2.2.2 3).bind fun y3 =>
  if y3.1 = true then
    (spec_l1Cur_spoilt.f y3.2.1 y3.2.2.1 y3.2.2.2 y2 [48, 49, 50, 51, 46, 44, 120]).bind fun y4 =>
    some y4.1
  else
    some y2 := by kernel_rfl
noncomputable def spec_l1Split.g : Gam := []
theorem spec_l1Split.gok : GOkI Tryz.prog I spec_l1Split.g := GOkI.nil _ _
noncomputable def spec_l1Split.i : FI := ⟨Tryz.f90, body Tryz.f90, (.seq .nil (.seq .nil (.seq .nil (.seq (.seq .nil (.blk (.loop [0, 1, 5, 6, 7] [] (.seq (.seq .nil (.cond .nil .nil)) (.seq (.blk (.seq .nil (.cond (.seq .nil .nil) .nil))) .nil))))) (.seq .nil .nil))))), [], [], [.res (.tmp 4) (.own 9 .str)]⟩
noncomputable def spec_l1Split.sp : CSpec := mkSpec spec_l1Split.g T spec_l1Split.i
theorem spec_l1Split.ok : SpecOk Tryz.prog I 90 spec_l1Split.sp := mkSpec_ok hmix hI spec_l1Split.gok tok spec_l1Split.i Tryz.func90 (by kernel_rfl) (by kernel_rfl) (by kernel_rfl) (by kernel_rfl)
noncomputable def spec_l1Split.f (x0 : List UInt8) (x1 : Int) : Option (List (List UInt8)) := run spec_l1Split.g T spec_l1Split.i [.v .str x0, .v (.int .u8) x1]
noncomputable def spec_l1Split.l0 (x0 : List UInt8) (x1 : Int) (x5 : List (List UInt8)) (x6 : Int) (x7 : Int) : Option (List (List UInt8)) := runAt spec_l1Split.g T spec_l1Split.i [true, true, true, false, true, false] [(0, .val .str x0), (1, .val (.int .u8) x1), (5, .own 9 .str x5), (6, .val (.int .i64) x6), (7, .val (.int .i64) x7)] []
theorem spec_l1Split.f.eq (x0 : List UInt8) (x1 : Int) : spec_l1Split.f x0 x1 =
  spec_l1Split.l0 x0 x1 [] 0 0 := by kernel_rfl
theorem spec_l1Split.l0.eq (x0 : List UInt8) (x1 : Int) (x5 : List (List UInt8)) (x6 : Int) (x7 : Int) : spec_l1Split.l0 x0 x1 x5 x6 x7 =
  if (decide (x7 < (x0.length : Int))) = true then
    (rdI x0 x7).bind fun y3 =>
    if ((y3.toNat : Int) == x1) = true then
      (subI x0 x6 x7).bind fun y5 =>
      (catI (appMax 16) x5 [y5]).bind fun y6 =>
      spec_l1Split.l0 x0 x1 y6 (IntKind.i64.wrap (x7 + 1)) (IntKind.i64.wrap (x7 + 1))
    else
      spec_l1Split.l0 x0 x1 x5 x6 (IntKind.i64.wrap (x7 + 1))
  else
    (subI x0 x6 x0.length).bind fun y10 =>
    (catI (appMax 16) x5 [y10]).bind fun y11 =>
    some y11 := (runAt_loop _ _ _ _ _ _).trans (by kernel_rfl)
noncomputable def spec_l1Read.g : Gam := [(47, spec_l1In.sp)]
theorem spec_l1Read.gok : GOkI Tryz.prog I spec_l1Read.g := (GOkI.nil _ _).cons spec_l1In.ok
noncomputable def spec_l1Read.i : FI := ⟨Tryz.f91, body Tryz.f91, (.seq .nil (.seq (.cut [0, 18] [] .nil (.cond (.seq .nil .nil) .nil)) (.seq .nil (.seq (.seq .nil (.blk (.loop [0, 3, 4] [] (.seq (.seq .nil (.cond .nil .nil)) (.seq (.blk (.seq (.seq .nil (.cond (.seq .nil .nil) .nil)) .nil)) .nil))))) (.seq .nil .nil))))), [], [], [.res (.tmp 2) (.v (.int .i64))]⟩
noncomputable def spec_l1Read.sp : CSpec := mkSpec spec_l1Read.g T spec_l1Read.i
theorem spec_l1Read.ok : SpecOk Tryz.prog I 91 spec_l1Read.sp := mkSpec_ok hmix hI spec_l1Read.gok tok spec_l1Read.i Tryz.func91 (by kernel_rfl) (by kernel_rfl) (by kernel_rfl) (by kernel_rfl)
noncomputable def spec_l1Read.f (x0 : List UInt8) : Option (Int) := run spec_l1Read.g T spec_l1Read.i [.v .str x0]
noncomputable def spec_l1Read.j0 (x0 : List UInt8) (x18 : Bool) : Option (Int) := runJ spec_l1Read.g T spec_l1Read.i [true, false, true] [(0, .val .str x0), (18, .val .bool x18)] []
noncomputable def spec_l1Read.l0 (x0 : List UInt8) (x3 : Int) (x4 : Int) : Option (Int) := runAt spec_l1Read.g T spec_l1Read.i [true, true, true, false, true, false] [(0, .val .str x0), (3, .val (.int .i64) x3), (4, .val (.int .i64) x4)] []
theorem spec_l1Read.f.eq (x0 : List UInt8) : spec_l1Read.f x0 =
  (spec_l1In.f (x0.length : Int) 1 6).bind fun y2 =>
  if (!y2) = true then
    spec_l1Read.j0 x0 true
  else
    (rdI x0 0).bind fun y17 =>
    if ((y17.toNat : Int) == 48) = true then
      spec_l1Read.j0 x0 (if false = true then true else (if true = true then (decide ((x0.length : Int) > 1)) else false))
    else
      spec_l1Read.j0 x0 false := by kernel_rfl
theorem spec_l1Read.j0.eq (x0 : List UInt8) (x18 : Bool) : spec_l1Read.j0 x0 x18 =
  if x18 = true then
    some (-1)
  else
    spec_l1Read.l0 x0 0 0 := (runJ_eq _ _ _ _ _ _).trans (by kernel_rfl)
theorem spec_l1Read.l0.eq (x0 : List UInt8) (x3 : Int) (x4 : Int) : spec_l1Read.l0 x0 x3 x4 =
  if (decide (x4 < (x0.length : Int))) = true then
    (rdI x0 x4).bind fun y3 =>
    if (decide ((y3.toNat : Int) < 48)) = true then
      some (-1)
    else
      (rdI x0 x4).bind fun y6 =>
      if (if false = true then true else (decide ((y6.toNat : Int) > 57))) = true then
        some (-1)
      else
        (rdI x0 x4).bind fun y11 =>
        spec_l1Read.l0 x0 (IntKind.i64.wrap ((IntKind.i64.wrap (10 * x3)) + (IntKind.i64.wrap (IntKind.u8.wrap ((y11.toNat : Int) - 48))))) (IntKind.i64.wrap (x4 + 1))
  else
    some x3 := (runAt_loop _ _ _ _ _ _).trans (by kernel_rfl)
noncomputable def spec_biParse.g : Gam := [(90, spec_l1Split.sp), (91, spec_l1Read.sp), (54, spec_biGood.sp)]
theorem spec_biParse.gok : GOkI Tryz.prog I spec_biParse.g := (((GOkI.nil _ _).cons spec_biGood.ok).cons spec_l1Read.ok).cons spec_l1Split.ok
noncomputable def spec_biParse.i : FI := ⟨Tryz.f78, body Tryz.f78, (.seq .nil (.seq (.seq .nil (.cond (.seq .nil .nil) .nil)) (.seq .nil (.seq (.seq .nil (.blk (.loop [4, 12, 13, 14] [] (.seq .nil (.seq (.cond .nil .nil) (.seq (.blk (.seq .nil (.seq .nil (.seq (.seq .nil (.cond (.seq .nil .nil) .nil)) .nil)))) .nil)))))) (.seq (.seq .nil (.cond (.seq .nil .nil) .nil)) (.seq .nil .nil)))))), [], [], [.res (.tmp 2) (.own 25 (.pair (.int .i64) (.int .i64))), .res (.tmp 3) (.v .bool)]⟩
noncomputable def spec_biParse.sp : CSpec := mkSpec spec_biParse.g T spec_biParse.i
theorem spec_biParse.ok : SpecOk Tryz.prog I 78 spec_biParse.sp := mkSpec_ok hmix hI spec_biParse.gok tok spec_biParse.i Tryz.func78 (by kernel_rfl) (by kernel_rfl) (by kernel_rfl) (by kernel_rfl)
noncomputable def spec_biParse.f (x0 : List UInt8) : Option ((List (Int × Int)) × Bool) := run spec_biParse.g T spec_biParse.i [.v .str x0]
noncomputable def spec_biParse.l0 (x4 : List (Int × Int)) (x12 : List (List UInt8)) (x13 : Int) (x14 : Int) : Option ((List (Int × Int)) × Bool) := runAt spec_biParse.g T spec_biParse.i [true, true, true, false, true, false] [(4, .own 25 (.pair (.int .i64) (.int .i64)) x4), (12, .own 9 .str x12), (13, .val (.int .i64) x13), (14, .val (.int .i64) x14)] []
theorem spec_biParse.f.eq (x0 : List UInt8) : spec_biParse.f x0 =
  if (decide ((x0.length : Int) > 71)) = true then
    some ([], false)
  else
    (spec_l1Split.f x0 44).bind fun y3 =>
    spec_biParse.l0 [] y3 (y3.length : Int) 0 := by kernel_rfl
theorem spec_biParse.l0.eq (x4 : List (Int × Int)) (x12 : List (List UInt8)) (x13 : Int) (x14 : Int) : spec_biParse.l0 x4 x12 x13 x14 =
  if (decide (x14 < x13)) = true then
    (rdI x12 x14).bind fun y2 =>
    (spec_l1Split.f y2 46).bind fun y3 =>
    if ((y3.length : Int) != 2) = true then
      some ([], false)
    else
      (rdI y3 0).bind fun y5 =>
      (spec_l1Read.f y5).bind fun y6 =>
      (rdI y3 1).bind fun y7 =>
      (spec_l1Read.f y7).bind fun y8 =>
      (catI (appMax 16) x4 [(y6, y8)]).bind fun y9 =>
      spec_biParse.l0 y9 x12 x13 (IntKind.i64.wrap (x14 + 1))
  else
    (spec_biGood.f x4).bind fun y11 =>
    if (!y11) = true then
      some ([], false)
    else
      some (x4, true) := (runAt_loop _ _ _ _ _ _).trans (by kernel_rfl)
noncomputable def spec_ParseBirths.g : Gam := [(78, spec_biParse.sp)]
theorem spec_ParseBirths.gok : GOkI Tryz.prog I spec_ParseBirths.g := (GOkI.nil _ _).cons spec_biParse.ok
noncomputable def spec_ParseBirths.i : FI := ⟨Tryz.f38, body Tryz.f38, (.seq .nil (.seq .nil .nil)), [], [], [.res (.tmp 2) (.own 25 (.pair (.int .i64) (.int .i64))), .res (.tmp 3) (.v .bool)]⟩
noncomputable def spec_ParseBirths.sp : CSpec := mkSpec spec_ParseBirths.g T spec_ParseBirths.i
theorem spec_ParseBirths.ok : SpecOk Tryz.prog I 38 spec_ParseBirths.sp := mkSpec_ok hmix hI spec_ParseBirths.gok tok spec_ParseBirths.i Tryz.func38 (by kernel_rfl) (by kernel_rfl) (by kernel_rfl) (by kernel_rfl)
noncomputable def spec_ParseBirths.f (x0 : List UInt8) : Option ((List (Int × Int)) × Bool) := run spec_ParseBirths.g T spec_ParseBirths.i [.v .str x0]
theorem spec_ParseBirths.f.eq (x0 : List UInt8) : spec_ParseBirths.f x0 =
  (spec_biParse.f x0).bind fun y1 =>
  some (y1.1, y1.2) := by kernel_rfl
noncomputable def impl_DaysOld.g : Gam := [(72, impl_areBornOn.sp), (60, impl_Date_index.sp)]
theorem impl_DaysOld.gok : GOkI Tryz.prog I impl_DaysOld.g := ((GOkI.nil _ _).cons impl_Date_index.ok).cons impl_areBornOn.ok
noncomputable def impl_DaysOld.i : FI := ⟨Tryz.f39, body Tryz.f39, (.seq .nil (.seq (.seq .nil (.cond (.seq .nil .nil) .nil)) (.seq .nil .nil))), [], [], [.res (.tmp 4) (.v (.int .i64)), .res (.tmp 5) (.v .bool)]⟩
noncomputable def impl_DaysOld.sp : CSpec := mkSpec impl_DaysOld.g T impl_DaysOld.i
theorem impl_DaysOld.ok : SpecOk Tryz.prog I 39 impl_DaysOld.sp := mkSpec_ok hmix hI impl_DaysOld.gok tok impl_DaysOld.i Tryz.func39 (by kernel_rfl) (by kernel_rfl) (by kernel_rfl) (by kernel_rfl)
noncomputable def impl_DaysOld.f (x0 : Int × Int) (x1 : Int × Int) : Option (Int × Bool) := run impl_DaysOld.g T impl_DaysOld.i [.v (.pair (.int .i64) (.int .i64)) x0, .v (.pair (.int .i64) (.int .i64)) x1]
theorem impl_DaysOld.f.eq (x0 : Int × Int) (x1 : Int × Int) : impl_DaysOld.f x0 x1 =
  (impl_areBornOn.f [(x0.1, x0.2)] (x1.1, x1.2)).bind fun y1 =>
  if (!y1) = true then
    some (0, false)
  else
    (impl_Date_index.f (x1.1, x1.2)).bind fun y2 =>
    (impl_Date_index.f (x0.1, x0.2)).bind fun y3 =>
    some ((IntKind.i64.wrap (y2 - y3)), true) := by kernel_rfl
noncomputable def impl_DaysApart.g : Gam := [(43, impl_IsDate.sp), (60, impl_Date_index.sp)]
theorem impl_DaysApart.gok : GOkI Tryz.prog I impl_DaysApart.g := ((GOkI.nil _ _).cons impl_Date_index.ok).cons impl_IsDate.ok
noncomputable def impl_DaysApart.i : FI := ⟨Tryz.f40, body Tryz.f40, (.seq .nil (.seq (.cut [2, 3, 14] [2, 3] .nil (.cond (.seq .nil .nil) .nil)) (.seq .nil (.seq .nil .nil)))), [], [], [.res (.tmp 4) (.v (.int .i64)), .res (.tmp 5) (.v .bool)]⟩
noncomputable def impl_DaysApart.sp : CSpec := mkSpec impl_DaysApart.g T impl_DaysApart.i
theorem impl_DaysApart.ok : SpecOk Tryz.prog I 40 impl_DaysApart.sp := mkSpec_ok hmix hI impl_DaysApart.gok tok impl_DaysApart.i Tryz.func40 (by kernel_rfl) (by kernel_rfl) (by kernel_rfl) (by kernel_rfl)
noncomputable def impl_DaysApart.f (x0 : Int × Int) (x1 : Int × Int) : Option (Int × Bool) := run impl_DaysApart.g T impl_DaysApart.i [.v (.pair (.int .i64) (.int .i64)) x0, .v (.pair (.int .i64) (.int .i64)) x1]
noncomputable def impl_DaysApart.j0 (x14 : Bool) (xb2_0 : Int) (xb2_1 : Int) (xb3_0 : Int) (xb3_1 : Int) : Option (Int × Bool) := runJ impl_DaysApart.g T impl_DaysApart.i [true, false, true] [(2, .ptr 2 0), (3, .ptr 3 0), (14, .val .bool x14)] [(2, [⟨(.int .i64), xb2_0⟩, ⟨(.int .i64), xb2_1⟩]), (3, [⟨(.int .i64), xb3_0⟩, ⟨(.int .i64), xb3_1⟩])]
theorem impl_DaysApart.f.eq (x0 : Int × Int) (x1 : Int × Int) : impl_DaysApart.f x0 x1 =
  (impl_IsDate.f (x0.1, x0.2)).bind fun y1 =>
  if (!y1) = true then
    impl_DaysApart.j0 true x0.1 x0.2 x1.1 x1.2
  else
    (impl_IsDate.f (x1.1, x1.2)).bind fun y6 =>
    impl_DaysApart.j0 (if false = true then true else !y6) x0.1 x0.2 x1.1 x1.2 := by kernel_rfl
theorem impl_DaysApart.j0.eq (x14 : Bool) (xb2_0 : Int) (xb2_1 : Int) (xb3_0 : Int) (xb3_1 : Int) : impl_DaysApart.j0 x14 xb2_0 xb2_1 xb3_0 xb3_1 =
  if x14 = true then
    some (0, false)
  else
    (impl_Date_index.f (xb2_0, xb2_1)).bind fun y1 =>
    (impl_Date_index.f (xb3_0, xb3_1)).bind fun y2 =>
    let y3 := IntKind.i64.wrap (y1 - y2)
    some ((mx2 y3 (IntKind.i64.wrap (0 - y3))), true) := (runJ_eq _ _ _ _ _ _).trans (by kernel_rfl)
noncomputable def laws_FnBirthdaysMeet.g : Gam := [(4, laws_big.sp), (5, spec_DrawDaysAlike.sp), (6, impl_DaysAlike.sp), (7, spec_DaysAlike.sp), (8, spec_DrawFirstSumOn.sp), (9, impl_FirstSumOn.sp), (10, spec_FirstSumOn.sp), (11, impl_OlderOf.sp), (12, spec_OlderOf.sp), (13, impl_BirthdaysOf.sp), (14, spec_BirthdaysOf.sp), (15, impl_BirthsText.sp), (16, spec_BirthsText.sp), (21, impl_GreatestGap.sp), (22, impl_SumOfAgesOn.sp), (23, impl_AddDays.sp), (24, impl_ParseBirths.sp), (26, laws_gRises.sp), (27, spec_DrawTwiceAsOld.sp), (28, impl_TwiceAsOld.sp), (29, spec_TwiceAsOld.sp), (30, spec_GreatestGap.sp), (31, spec_DrawHalfBirthday.sp), (32, impl_HalfBirthday.sp), (33, spec_HalfBirthday.sp), (34, spec_DrawDayOfDaysOld.sp), (35, impl_DayOfDaysOld.sp), (36, spec_DayOfDaysOld.sp), (37, spec_DrawParseBirths.sp), (38, spec_ParseBirths.sp), (39, impl_DaysOld.sp), (40, impl_DaysApart.sp), (25, laws_gDates.sp), (17, laws_gSame.sp), (18, laws_gRows.sp), (19, impl_AreBirthDates.sp), (20, spec_AreBirthDates.sp)]
theorem laws_FnBirthdaysMeet.gok : GOkI Tryz.prog I laws_FnBirthdaysMeet.g := (((((((((((((((((((((((((((((((((((((GOkI.nil _ _).cons spec_AreBirthDates.ok).cons impl_AreBirthDates.ok).cons laws_gRows.ok).cons laws_gSame.ok).cons laws_gDates.ok).cons impl_DaysApart.ok).cons impl_DaysOld.ok).cons spec_ParseBirths.ok).cons spec_DrawParseBirths.ok).cons spec_DayOfDaysOld.ok).cons impl_DayOfDaysOld.ok).cons spec_DrawDayOfDaysOld.ok).cons spec_HalfBirthday.ok).cons impl_HalfBirthday.ok).cons spec_DrawHalfBirthday.ok).cons spec_GreatestGap.ok).cons spec_TwiceAsOld.ok).cons impl_TwiceAsOld.ok).cons spec_DrawTwiceAsOld.ok).cons laws_gRises.ok).cons impl_ParseBirths.ok).cons impl_AddDays.ok).cons impl_SumOfAgesOn.ok).cons impl_GreatestGap.ok).cons spec_BirthsText.ok).cons impl_BirthsText.ok).cons spec_BirthdaysOf.ok).cons impl_BirthdaysOf.ok).cons spec_OlderOf.ok).cons impl_OlderOf.ok).cons spec_FirstSumOn.ok).cons impl_FirstSumOn.ok).cons spec_DrawFirstSumOn.ok).cons spec_DaysAlike.ok).cons impl_DaysAlike.ok).cons spec_DrawDaysAlike.ok).cons laws_big.ok
noncomputable def laws_FnBirthdaysMeet.i : FI := ⟨Tryz.f3, body Tryz.f3, (.seq .nil (.seq (.seq .nil (.cond (.seq .nil .nil) .nil)) (.seq .nil (.seq .nil (.seq .nil (.seq .nil (.seq .nil (.seq .nil (.seq .nil (.seq .nil (.cut [1, 5, 6, 8, 9, 10, 11, 12, 13, 14, 15, 16, 17, 18, 19, 20, 21, 22, 23] [5, 6, 14, 16] .nil (.seq .nil (.seq .nil (.cut [1, 5, 6, 8, 9, 10, 11, 12, 13, 14, 15, 16, 17, 18, 19, 20, 21, 22, 23, 24, 25, 26, 27, 28, 29] [5, 6, 14, 16] .nil (.seq (.cut [1, 5, 6, 8, 9, 12, 13, 14, 15, 18, 19, 22, 26, 242] [5, 6, 14] .nil (.cond (.seq .nil .nil) .nil)) (.cut [1, 12, 13, 14, 15, 18, 19, 22, 26] [14] (.seq .nil (.cond (.seq .nil (.cut [1, 5, 6, 8, 12, 13, 14, 15, 18, 19, 22, 26, 30] [5, 6, 14] (.seq .nil (.cond .nil .nil)) (.seq .nil (.cut [1, 5, 6, 8, 12, 13, 14, 15, 18, 19, 22, 26, 30, 31, 32, 33] [5, 6, 14] (.seq .nil (.cond .nil .nil)) (.seq (.cut [1, 8, 12, 13, 14, 15, 18, 19, 22, 26, 30, 31, 32, 306] [14] .nil (.cond (.seq .nil .nil) .nil)) (.seq .nil (.cond (.seq .nil .nil) .nil))))))) .nil)) (.cut [1, 12, 18, 19, 22, 26] [] (.seq .nil (.cond (.seq .nil (.seq .nil (.seq (.cut [1, 12, 13, 18, 19, 22, 26, 36, 37, 343] [36] .nil (.cond (.seq .nil .nil) .nil)) (.seq .nil (.cond (.seq .nil (.seq .nil (.cond (.seq .nil .nil) .nil))) .nil))))) .nil)) (.cut [1] [] (.seq .nil (.cond (.cut [1, 12, 18, 22, 40, 41] [] .nil (.seq (.cut [1, 12, 18, 22, 377] [] .nil (.cond (.seq .nil .nil) .nil)) (.seq (.seq .nil (.blk (.loop [1, 12, 18, 22, 42] [] (.seq (.seq .nil (.cond .nil .nil)) (.seq (.blk (.seq .nil (.seq .nil (.cond (.seq .nil .nil) .nil)))) .nil))))) (.seq .nil (.seq (.seq .nil (.blk (.loop [1, 12, 22, 45, 435, 436, 437] [] (.seq .nil (.seq (.cond .nil .nil) (.seq (.blk (.seq .nil (.seq (.cut [1, 12, 22, 45, 47, 435, 436, 437, 467] [] .nil (.cond (.seq .nil .nil) .nil)) (.seq .nil (.blk (.loop [1, 12, 22, 45, 47, 435, 436, 437, 469, 470, 471] [] (.seq .nil (.seq (.cond .nil .nil) (.seq (.blk (.seq .nil (.seq (.seq .nil (.cond (.seq .nil .nil) .nil)) .nil))) .nil))))))))) .nil)))))) (.seq .nil (.cond (.seq .nil .nil) .nil))))))) .nil)) (.seq .nil (.seq .nil (.seq .nil (.seq .nil (.cut [1, 50, 51, 52, 53, 54, 55, 56, 57, 58, 59, 60, 61] [50, 51, 52, 54] .nil (.seq .nil (.seq .nil (.seq .nil (.seq .nil (.seq .nil (.seq .nil (.seq .nil (.seq .nil (.cut [50, 51, 52, 53, 54, 55, 56, 57, 58, 59, 60, 61, 62, 63, 64, 65, 66, 67, 68, 69, 70, 71, 72, 73, 74, 75, 76, 77, 78] [50, 51, 52, 54, 62, 63, 64, 66, 68, 70, 72] .nil (.seq (.cut [50, 51, 52, 53, 62, 63, 64, 65, 68, 69, 70, 71, 74, 75, 76, 639] [50, 51, 52, 62, 63, 64, 68, 70] .nil (.cond (.seq .nil .nil) .nil)) (.cut [62, 63, 64, 65, 68, 69, 70, 71, 74, 75, 76] [62, 63, 64, 68, 70] (.seq .nil (.cond (.seq .nil (.cut [62, 63, 64, 65, 68, 69, 70, 71, 74, 75, 76, 79, 80, 81, 82] [62, 63, 64, 68, 70] .nil (.seq .nil (.cond (.seq .nil .nil) .nil)))) .nil)) (.cut [68, 69, 70, 71, 74, 75, 76] [68, 70] (.seq .nil (.cond (.seq .nil (.seq .nil (.cut [68, 69, 70, 71, 74, 75, 76, 83, 84, 85, 86, 87, 88] [68, 70] .nil (.seq .nil (.cond (.seq .nil .nil) .nil))))) .nil)) (.seq (.seq .nil (.cond (.seq .nil (.cut [74, 75, 76, 736] [] .nil (.cond (.seq .nil .nil) .nil))) .nil)) (.seq (.seq .nil (.cond (.seq .nil (.seq .nil .nil)) .nil)) (.seq .nil .nil)))))))))))))))))))))))))))))))))))))), [], [], [.res (.tmp 4) (.v .bool)]⟩
noncomputable def laws_FnBirthdaysMeet.sp : CSpec := mkSpec laws_FnBirthdaysMeet.g T laws_FnBirthdaysMeet.i
theorem laws_FnBirthdaysMeet.ok : SpecOk Tryz.prog I 3 laws_FnBirthdaysMeet.sp := mkSpec_ok hmix hI laws_FnBirthdaysMeet.gok tok laws_FnBirthdaysMeet.i Tryz.func3 (by kernel_rfl) (by kernel_rfl) (by kernel_rfl) (by kernel_rfl)
noncomputable def laws_FnBirthdaysMeet.f (x0 : List Int) (x1 : List Int) : Option (Bool) := run laws_FnBirthdaysMeet.g T laws_FnBirthdaysMeet.i [.v (.slice (.int .u8)) x0, .v (.slice (.int .u8)) x1]
noncomputable def laws_FnBirthdaysMeet.j0 (x1 : List Int) (x8 : Int) (x9 : Bool) (x10 : Int) (x11 : Bool) (x12 : List (Int × Int)) (x13 : Int) (x15 : Bool) (x17 : Bool) (x18 : List Int) (x19 : Bool) (x20 : List Int) (x21 : Bool) (x22 : List (List Int)) (x23 : Bool) (xb5_0 : Int) (xb5_1 : Int) (xb6_0 : Int) (xb6_1 : Int) (xb14_0 : Int) (xb14_1 : Int) (xb16_0 : Int) (xb16_1 : Int) : Option (Bool) := runJ laws_FnBirthdaysMeet.g T laws_FnBirthdaysMeet.i [true, true, true, true, true, true, true, true, true, true, true] [(1, .val (.slice (.int .u8)) x1), (5, .ptr 5 0), (6, .ptr 6 0), (8, .val (.int .i64) x8), (9, .val .bool x9), (10, .val (.int .i64) x10), (11, .val .bool x11), (12, .val (.slice (.pair (.int .i64) (.int .i64))) x12), (13, .val (.int .i64) x13), (14, .ptr 14 0), (15, .val .bool x15), (16, .ptr 16 0), (17, .val .bool x17), (18, .val (.slice (.int .i64)) x18), (19, .val .bool x19), (20, .own 3 (.int .i64) x20), (21, .val .bool x21), (22, .own 35 (.slice (.int .i64)) x22), (23, .val .bool x23)] [(5, [⟨(.int .i64), xb5_0⟩, ⟨(.int .i64), xb5_1⟩]), (6, [⟨(.int .i64), xb6_0⟩, ⟨(.int .i64), xb6_1⟩]), (14, [⟨(.int .i64), xb14_0⟩, ⟨(.int .i64), xb14_1⟩]), (16, [⟨(.int .i64), xb16_0⟩, ⟨(.int .i64), xb16_1⟩])]
noncomputable def laws_FnBirthdaysMeet.j1 (x1 : List Int) (x8 : Int) (x9 : Bool) (x10 : Int) (x11 : Bool) (x12 : List (Int × Int)) (x13 : Int) (x15 : Bool) (x17 : Bool) (x18 : List Int) (x19 : Bool) (x20 : List Int) (x21 : Bool) (x22 : List (List Int)) (x23 : Bool) (x24 : List (List Int)) (x25 : Bool) (x26 : List UInt8) (x27 : Bool) (x28 : List UInt8) (x29 : Bool) (xb5_0 : Int) (xb5_1 : Int) (xb6_0 : Int) (xb6_1 : Int) (xb14_0 : Int) (xb14_1 : Int) (xb16_0 : Int) (xb16_1 : Int) : Option (Bool) := runJ laws_FnBirthdaysMeet.g T laws_FnBirthdaysMeet.i [true, true, true, true, true, true, true, true, true, true, true, true, true, true] [(1, .val (.slice (.int .u8)) x1), (5, .ptr 5 0), (6, .ptr 6 0), (8, .val (.int .i64) x8), (9, .val .bool x9), (10, .val (.int .i64) x10), (11, .val .bool x11), (12, .val (.slice (.pair (.int .i64) (.int .i64))) x12), (13, .val (.int .i64) x13), (14, .ptr 14 0), (15, .val .bool x15), (16, .ptr 16 0), (17, .val .bool x17), (18, .val (.slice (.int .i64)) x18), (19, .val .bool x19), (20, .own 3 (.int .i64) x20), (21, .val .bool x21), (22, .own 35 (.slice (.int .i64)) x22), (23, .val .bool x23), (24, .own 35 (.slice (.int .i64)) x24), (25, .val .bool x25), (26, .val .str x26), (27, .val .bool x27), (28, .val .str x28), (29, .val .bool x29)] [(5, [⟨(.int .i64), xb5_0⟩, ⟨(.int .i64), xb5_1⟩]), (6, [⟨(.int .i64), xb6_0⟩, ⟨(.int .i64), xb6_1⟩]), (14, [⟨(.int .i64), xb14_0⟩, ⟨(.int .i64), xb14_1⟩]), (16, [⟨(.int .i64), xb16_0⟩, ⟨(.int .i64), xb16_1⟩])]
noncomputable def laws_FnBirthdaysMeet.j2 (x1 : List Int) (x8 : Int) (x9 : Bool) (x12 : List (Int × Int)) (x13 : Int) (x15 : Bool) (x18 : List Int) (x19 : Bool) (x22 : List (List Int)) (x26 : List UInt8) (x242 : Bool) (xb5_0 : Int) (xb5_1 : Int) (xb6_0 : Int) (xb6_1 : Int) (xb14_0 : Int) (xb14_1 : Int) : Option (Bool) := runJ laws_FnBirthdaysMeet.g T laws_FnBirthdaysMeet.i [true, true, true, true, true, true, true, true, true, true, true, true, true, true, false, true] [(1, .val (.slice (.int .u8)) x1), (5, .ptr 5 0), (6, .ptr 6 0), (8, .val (.int .i64) x8), (9, .val .bool x9), (12, .val (.slice (.pair (.int .i64) (.int .i64))) x12), (13, .val (.int .i64) x13), (14, .ptr 14 0), (15, .val .bool x15), (18, .val (.slice (.int .i64)) x18), (19, .val .bool x19), (22, .own 35 (.slice (.int .i64)) x22), (26, .val .str x26), (242, .val .bool x242)] [(5, [⟨(.int .i64), xb5_0⟩, ⟨(.int .i64), xb5_1⟩]), (6, [⟨(.int .i64), xb6_0⟩, ⟨(.int .i64), xb6_1⟩]), (14, [⟨(.int .i64), xb14_0⟩, ⟨(.int .i64), xb14_1⟩])]
noncomputable def laws_FnBirthdaysMeet.j3 (x1 : List Int) (x8 : Int) (x12 : List (Int × Int)) (x13 : Int) (x15 : Bool) (x18 : List Int) (x19 : Bool) (x22 : List (List Int)) (x26 : List UInt8) (x30 : Int) (xb5_0 : Int) (xb5_1 : Int) (xb6_0 : Int) (xb6_1 : Int) (xb14_0 : Int) (xb14_1 : Int) : Option (Bool) := runJ laws_FnBirthdaysMeet.g T laws_FnBirthdaysMeet.i [true, true, true, true, true, true, true, true, true, true, true, true, true, true, true, false, true, false, true, true] [(1, .val (.slice (.int .u8)) x1), (5, .ptr 5 0), (6, .ptr 6 0), (8, .val (.int .i64) x8), (12, .val (.slice (.pair (.int .i64) (.int .i64))) x12), (13, .val (.int .i64) x13), (14, .ptr 14 0), (15, .val .bool x15), (18, .val (.slice (.int .i64)) x18), (19, .val .bool x19), (22, .own 35 (.slice (.int .i64)) x22), (26, .val .str x26), (30, .val (.int .i64) x30)] [(5, [⟨(.int .i64), xb5_0⟩, ⟨(.int .i64), xb5_1⟩]), (6, [⟨(.int .i64), xb6_0⟩, ⟨(.int .i64), xb6_1⟩]), (14, [⟨(.int .i64), xb14_0⟩, ⟨(.int .i64), xb14_1⟩])]
noncomputable def laws_FnBirthdaysMeet.j4 (x1 : List Int) (x8 : Int) (x12 : List (Int × Int)) (x13 : Int) (x15 : Bool) (x18 : List Int) (x19 : Bool) (x22 : List (List Int)) (x26 : List UInt8) (x30 : Int) (x31 : Int) (x32 : Int) (x33 : Bool) (xb5_0 : Int) (xb5_1 : Int) (xb6_0 : Int) (xb6_1 : Int) (xb14_0 : Int) (xb14_1 : Int) : Option (Bool) := runJ laws_FnBirthdaysMeet.g T laws_FnBirthdaysMeet.i [true, true, true, true, true, true, true, true, true, true, true, true, true, true, true, false, true, false, true, true, true, true] [(1, .val (.slice (.int .u8)) x1), (5, .ptr 5 0), (6, .ptr 6 0), (8, .val (.int .i64) x8), (12, .val (.slice (.pair (.int .i64) (.int .i64))) x12), (13, .val (.int .i64) x13), (14, .ptr 14 0), (15, .val .bool x15), (18, .val (.slice (.int .i64)) x18), (19, .val .bool x19), (22, .own 35 (.slice (.int .i64)) x22), (26, .val .str x26), (30, .val (.int .i64) x30), (31, .val (.int .i64) x31), (32, .val (.int .i64) x32), (33, .val .bool x33)] [(5, [⟨(.int .i64), xb5_0⟩, ⟨(.int .i64), xb5_1⟩]), (6, [⟨(.int .i64), xb6_0⟩, ⟨(.int .i64), xb6_1⟩]), (14, [⟨(.int .i64), xb14_0⟩, ⟨(.int .i64), xb14_1⟩])]
noncomputable def laws_FnBirthdaysMeet.j5 (x1 : List Int) (x8 : Int) (x12 : List (Int × Int)) (x13 : Int) (x15 : Bool) (x18 : List Int) (x19 : Bool) (x22 : List (List Int)) (x26 : List UInt8) (x30 : Int) (x31 : Int) (x32 : Int) (x306 : Bool) (xb14_0 : Int) (xb14_1 : Int) : Option (Bool) := runJ laws_FnBirthdaysMeet.g T laws_FnBirthdaysMeet.i [true, true, true, true, true, true, true, true, true, true, true, true, true, true, true, false, true, false, true, true, true, true, false, true] [(1, .val (.slice (.int .u8)) x1), (8, .val (.int .i64) x8), (12, .val (.slice (.pair (.int .i64) (.int .i64))) x12), (13, .val (.int .i64) x13), (14, .ptr 14 0), (15, .val .bool x15), (18, .val (.slice (.int .i64)) x18), (19, .val .bool x19), (22, .own 35 (.slice (.int .i64)) x22), (26, .val .str x26), (30, .val (.int .i64) x30), (31, .val (.int .i64) x31), (32, .val (.int .i64) x32), (306, .val .bool x306)] [(14, [⟨(.int .i64), xb14_0⟩, ⟨(.int .i64), xb14_1⟩])]
noncomputable def laws_FnBirthdaysMeet.j6 (x1 : List Int) (x12 : List (Int × Int)) (x13 : Int) (x15 : Bool) (x18 : List Int) (x19 : Bool) (x22 : List (List Int)) (x26 : List UInt8) (xb14_0 : Int) (xb14_1 : Int) : Option (Bool) := runJ laws_FnBirthdaysMeet.g T laws_FnBirthdaysMeet.i [true, true, true, true, true, true, true, true, true, true, true, true, true, true, true, true] [(1, .val (.slice (.int .u8)) x1), (12, .val (.slice (.pair (.int .i64) (.int .i64))) x12), (13, .val (.int .i64) x13), (14, .ptr 14 0), (15, .val .bool x15), (18, .val (.slice (.int .i64)) x18), (19, .val .bool x19), (22, .own 35 (.slice (.int .i64)) x22), (26, .val .str x26)] [(14, [⟨(.int .i64), xb14_0⟩, ⟨(.int .i64), xb14_1⟩])]
noncomputable def laws_FnBirthdaysMeet.j7 (x1 : List Int) (x12 : List (Int × Int)) (x13 : Int) (x18 : List Int) (x19 : Bool) (x22 : List (List Int)) (x26 : List UInt8) (x37 : Bool) (x343 : Bool) (xb36_0 : Int) (xb36_1 : Int) : Option (Bool) := runJ laws_FnBirthdaysMeet.g T laws_FnBirthdaysMeet.i [true, true, true, true, true, true, true, true, true, true, true, true, true, true, true, true, false, true, false, true, true, false, true] [(1, .val (.slice (.int .u8)) x1), (12, .val (.slice (.pair (.int .i64) (.int .i64))) x12), (13, .val (.int .i64) x13), (18, .val (.slice (.int .i64)) x18), (19, .val .bool x19), (22, .own 35 (.slice (.int .i64)) x22), (26, .val .str x26), (36, .ptr 36 0), (37, .val .bool x37), (343, .val .bool x343)] [(36, [⟨(.int .i64), xb36_0⟩, ⟨(.int .i64), xb36_1⟩])]
noncomputable def laws_FnBirthdaysMeet.j8 (x1 : List Int) (x12 : List (Int × Int)) (x18 : List Int) (x19 : Bool) (x22 : List (List Int)) (x26 : List UInt8) : Option (Bool) := runJ laws_FnBirthdaysMeet.g T laws_FnBirthdaysMeet.i [true, true, true, true, true, true, true, true, true, true, true, true, true, true, true, true, true] [(1, .val (.slice (.int .u8)) x1), (12, .val (.slice (.pair (.int .i64) (.int .i64))) x12), (18, .val (.slice (.int .i64)) x18), (19, .val .bool x19), (22, .own 35 (.slice (.int .i64)) x22), (26, .val .str x26)] []
noncomputable def laws_FnBirthdaysMeet.j9 (x1 : List Int) (x12 : List (Int × Int)) (x18 : List Int) (x22 : List (List Int)) (x40 : List (Int × Int)) (x41 : Bool) : Option (Bool) := runJ laws_FnBirthdaysMeet.g T laws_FnBirthdaysMeet.i [true, true, true, true, true, true, true, true, true, true, true, true, true, true, true, true, true, false, true, false, true] [(1, .val (.slice (.int .u8)) x1), (12, .val (.slice (.pair (.int .i64) (.int .i64))) x12), (18, .val (.slice (.int .i64)) x18), (22, .own 35 (.slice (.int .i64)) x22), (40, .own 25 (.pair (.int .i64) (.int .i64)) x40), (41, .val .bool x41)] []
noncomputable def laws_FnBirthdaysMeet.j10 (x1 : List Int) (x12 : List (Int × Int)) (x18 : List Int) (x22 : List (List Int)) (x377 : Bool) : Option (Bool) := runJ laws_FnBirthdaysMeet.g T laws_FnBirthdaysMeet.i [true, true, true, true, true, true, true, true, true, true, true, true, true, true, true, true, true, false, true, false, true, false, true] [(1, .val (.slice (.int .u8)) x1), (12, .val (.slice (.pair (.int .i64) (.int .i64))) x12), (18, .val (.slice (.int .i64)) x18), (22, .own 35 (.slice (.int .i64)) x22), (377, .val .bool x377)] []
noncomputable def laws_FnBirthdaysMeet.l0 (x1 : List Int) (x12 : List (Int × Int)) (x18 : List Int) (x22 : List (List Int)) (x42 : Int) : Option (Bool) := runAt laws_FnBirthdaysMeet.g T laws_FnBirthdaysMeet.i [true, true, true, true, true, true, true, true, true, true, true, true, true, true, true, true, true, false, true, false, true, true, false, true, false] [(1, .val (.slice (.int .u8)) x1), (12, .val (.slice (.pair (.int .i64) (.int .i64))) x12), (18, .val (.slice (.int .i64)) x18), (22, .own 35 (.slice (.int .i64)) x22), (42, .val (.int .i64) x42)] []
noncomputable def laws_FnBirthdaysMeet.l1 (x1 : List Int) (x12 : List (Int × Int)) (x22 : List (List Int)) (x45 : Int) (x436 : Int) (x437 : Int) : Option (Bool) := runAt laws_FnBirthdaysMeet.g T laws_FnBirthdaysMeet.i [true, true, true, true, true, true, true, true, true, true, true, true, true, true, true, true, true, false, true, false, true, true, true, true, false, true, false] [(1, .val (.slice (.int .u8)) x1), (12, .val (.slice (.pair (.int .i64) (.int .i64))) x12), (22, .own 35 (.slice (.int .i64)) x22), (45, .val (.int .i64) x45), (435, .alias 22), (436, .val (.int .i64) x436), (437, .val (.int .i64) x437)] []
noncomputable def laws_FnBirthdaysMeet.j11 (x1 : List Int) (x12 : List (Int × Int)) (x22 : List (List Int)) (x45 : Int) (x47 : List Int) (x436 : Int) (x437 : Int) (x467 : Bool) : Option (Bool) := runJ laws_FnBirthdaysMeet.g T laws_FnBirthdaysMeet.i [true, true, true, true, true, true, true, true, true, true, true, true, true, true, true, true, true, false, true, false, true, true, true, true, false, true, false, false, true, true, false, false, true, false, true] [(1, .val (.slice (.int .u8)) x1), (12, .val (.slice (.pair (.int .i64) (.int .i64))) x12), (22, .own 35 (.slice (.int .i64)) x22), (45, .val (.int .i64) x45), (47, .val (.slice (.int .i64)) x47), (435, .alias 22), (436, .val (.int .i64) x436), (437, .val (.int .i64) x437), (467, .val .bool x467)] []
noncomputable def laws_FnBirthdaysMeet.l2 (x1 : List Int) (x12 : List (Int × Int)) (x22 : List (List Int)) (x45 : Int) (x47 : List Int) (x436 : Int) (x437 : Int) (x469 : List Int) (x470 : Int) (x471 : Int) : Option (Bool) := runAt laws_FnBirthdaysMeet.g T laws_FnBirthdaysMeet.i [true, true, true, true, true, true, true, true, true, true, true, true, true, true, true, true, true, false, true, false, true, true, true, true, false, true, false, false, true, true, false, false, true, true, true, false] [(1, .val (.slice (.int .u8)) x1), (12, .val (.slice (.pair (.int .i64) (.int .i64))) x12), (22, .own 35 (.slice (.int .i64)) x22), (45, .val (.int .i64) x45), (47, .val (.slice (.int .i64)) x47), (435, .alias 22), (436, .val (.int .i64) x436), (437, .val (.int .i64) x437), (469, .val (.slice (.int .i64)) x469), (470, .val (.int .i64) x470), (471, .val (.int .i64) x471)] []
noncomputable def laws_FnBirthdaysMeet.j12 (x1 : List Int) : Option (Bool) := runJ laws_FnBirthdaysMeet.g T laws_FnBirthdaysMeet.i [true, true, true, true, true, true, true, true, true, true, true, true, true, true, true, true, true, true] [(1, .val (.slice (.int .u8)) x1)] []
noncomputable def laws_FnBirthdaysMeet.j13 (x1 : List Int) (x53 : Bool) (x55 : Bool) (x56 : Int) (x57 : Int) (x58 : Bool) (x59 : Int) (x60 : Int) (x61 : Bool) (xb50_0 : Int) (xb50_1 : Int) (xb51_0 : Int) (xb51_1 : Int) (xb52_0 : Int) (xb52_1 : Int) (xb54_0 : Int) (xb54_1 : Int) : Option (Bool) := runJ laws_FnBirthdaysMeet.g T laws_FnBirthdaysMeet.i [true, true, true, true, true, true, true, true, true, true, true, true, true, true, true, true, true, true, true, true, true, true, true] [(1, .val (.slice (.int .u8)) x1), (50, .ptr 50 0), (51, .ptr 51 0), (52, .ptr 52 0), (53, .val .bool x53), (54, .ptr 54 0), (55, .val .bool x55), (56, .val (.int .i64) x56), (57, .val (.int .i64) x57), (58, .val .bool x58), (59, .val (.int .i64) x59), (60, .val (.int .i64) x60), (61, .val .bool x61)] [(50, [⟨(.int .i64), xb50_0⟩, ⟨(.int .i64), xb50_1⟩]), (51, [⟨(.int .i64), xb51_0⟩, ⟨(.int .i64), xb51_1⟩]), (52, [⟨(.int .i64), xb52_0⟩, ⟨(.int .i64), xb52_1⟩]), (54, [⟨(.int .i64), xb54_0⟩, ⟨(.int .i64), xb54_1⟩])]
noncomputable def laws_FnBirthdaysMeet.j14 (x53 : Bool) (x55 : Bool) (x56 : Int) (x57 : Int) (x58 : Bool) (x59 : Int) (x60 : Int) (x61 : Bool) (x65 : Bool) (x67 : Bool) (x69 : Int) (x71 : Bool) (x73 : Bool) (x74 : List UInt8) (x75 : List (Int × Int)) (x76 : Bool) (x77 : List (Int × Int)) (x78 : Bool) (xb50_0 : Int) (xb50_1 : Int) (xb51_0 : Int) (xb51_1 : Int) (xb52_0 : Int) (xb52_1 : Int) (xb54_0 : Int) (xb54_1 : Int) (xb62_0 : Int) (xb62_1 : Int) (xb63_0 : Int) (xb63_1 : Int) (xb64_0 : Int) (xb64_1 : Int) (xb66_0 : Int) (xb66_1 : Int) (xb68_0 : Int) (xb68_1 : Int) (xb70_0 : Int) (xb70_1 : Int) (xb72_0 : Int) (xb72_1 : Int) : Option (Bool) := runJ laws_FnBirthdaysMeet.g T laws_FnBirthdaysMeet.i [true, true, true, true, true, true, true, true, true, true, true, true, true, true, true, true, true, true, true, true, true, true, true, true, true, true, true, true, true, true, true, true] [(50, .ptr 50 0), (51, .ptr 51 0), (52, .ptr 52 0), (53, .val .bool x53), (54, .ptr 54 0), (55, .val .bool x55), (56, .val (.int .i64) x56), (57, .val (.int .i64) x57), (58, .val .bool x58), (59, .val (.int .i64) x59), (60, .val (.int .i64) x60), (61, .val .bool x61), (62, .ptr 62 0), (63, .ptr 63 0), (64, .ptr 64 0), (65, .val .bool x65), (66, .ptr 66 0), (67, .val .bool x67), (68, .ptr 68 0), (69, .val (.int .i64) x69), (70, .ptr 70 0), (71, .val .bool x71), (72, .ptr 72 0), (73, .val .bool x73), (74, .val .str x74), (75, .own 25 (.pair (.int .i64) (.int .i64)) x75), (76, .val .bool x76), (77, .own 25 (.pair (.int .i64) (.int .i64)) x77), (78, .val .bool x78)] [(50, [⟨(.int .i64), xb50_0⟩, ⟨(.int .i64), xb50_1⟩]), (51, [⟨(.int .i64), xb51_0⟩, ⟨(.int .i64), xb51_1⟩]), (52, [⟨(.int .i64), xb52_0⟩, ⟨(.int .i64), xb52_1⟩]), (54, [⟨(.int .i64), xb54_0⟩, ⟨(.int .i64), xb54_1⟩]), (62, [⟨(.int .i64), xb62_0⟩, ⟨(.int .i64), xb62_1⟩]), (63, [⟨(.int .i64), xb63_0⟩, ⟨(.int .i64), xb63_1⟩]), (64, [⟨(.int .i64), xb64_0⟩, ⟨(.int .i64), xb64_1⟩]), (66, [⟨(.int .i64), xb66_0⟩, ⟨(.int .i64), xb66_1⟩]), (68, [⟨(.int .i64), xb68_0⟩, ⟨(.int .i64), xb68_1⟩]), (70, [⟨(.int .i64), xb70_0⟩, ⟨(.int .i64), xb70_1⟩]), (72, [⟨(.int .i64), xb72_0⟩, ⟨(.int .i64), xb72_1⟩])]
noncomputable def laws_FnBirthdaysMeet.j15 (x53 : Bool) (x65 : Bool) (x69 : Int) (x71 : Bool) (x74 : List UInt8) (x75 : List (Int × Int)) (x76 : Bool) (x639 : Bool) (xb50_0 : Int) (xb50_1 : Int) (xb51_0 : Int) (xb51_1 : Int) (xb52_0 : Int) (xb52_1 : Int) (xb62_0 : Int) (xb62_1 : Int) (xb63_0 : Int) (xb63_1 : Int) (xb64_0 : Int) (xb64_1 : Int) (xb68_0 : Int) (xb68_1 : Int) (xb70_0 : Int) (xb70_1 : Int) : Option (Bool) := runJ laws_FnBirthdaysMeet.g T laws_FnBirthdaysMeet.i [true, true, true, true, true, true, true, true, true, true, true, true, true, true, true, true, true, true, true, true, true, true, true, true, true, true, true, true, true, true, true, true, false, true] [(50, .ptr 50 0), (51, .ptr 51 0), (52, .ptr 52 0), (53, .val .bool x53), (62, .ptr 62 0), (63, .ptr 63 0), (64, .ptr 64 0), (65, .val .bool x65), (68, .ptr 68 0), (69, .val (.int .i64) x69), (70, .ptr 70 0), (71, .val .bool x71), (74, .val .str x74), (75, .own 25 (.pair (.int .i64) (.int .i64)) x75), (76, .val .bool x76), (639, .val .bool x639)] [(50, [⟨(.int .i64), xb50_0⟩, ⟨(.int .i64), xb50_1⟩]), (51, [⟨(.int .i64), xb51_0⟩, ⟨(.int .i64), xb51_1⟩]), (52, [⟨(.int .i64), xb52_0⟩, ⟨(.int .i64), xb52_1⟩]), (62, [⟨(.int .i64), xb62_0⟩, ⟨(.int .i64), xb62_1⟩]), (63, [⟨(.int .i64), xb63_0⟩, ⟨(.int .i64), xb63_1⟩]), (64, [⟨(.int .i64), xb64_0⟩, ⟨(.int .i64), xb64_1⟩]), (68, [⟨(.int .i64), xb68_0⟩, ⟨(.int .i64), xb68_1⟩]), (70, [⟨(.int .i64), xb70_0⟩, ⟨(.int .i64), xb70_1⟩])]
noncomputable def laws_FnBirthdaysMeet.j16 (x65 : Bool) (x69 : Int) (x71 : Bool) (x74 : List UInt8) (x75 : List (Int × Int)) (x76 : Bool) (x79 : Int) (x80 : Bool) (x81 : Int) (x82 : Bool) (xb62_0 : Int) (xb62_1 : Int) (xb63_0 : Int) (xb63_1 : Int) (xb64_0 : Int) (xb64_1 : Int) (xb68_0 : Int) (xb68_1 : Int) (xb70_0 : Int) (xb70_1 : Int) : Option (Bool) := runJ laws_FnBirthdaysMeet.g T laws_FnBirthdaysMeet.i [true, true, true, true, true, true, true, true, true, true, true, true, true, true, true, true, true, true, true, true, true, true, true, true, true, true, true, true, true, true, true, true, true, false, true, false, true, true] [(62, .ptr 62 0), (63, .ptr 63 0), (64, .ptr 64 0), (65, .val .bool x65), (68, .ptr 68 0), (69, .val (.int .i64) x69), (70, .ptr 70 0), (71, .val .bool x71), (74, .val .str x74), (75, .own 25 (.pair (.int .i64) (.int .i64)) x75), (76, .val .bool x76), (79, .val (.int .i64) x79), (80, .val .bool x80), (81, .val (.int .i64) x81), (82, .val .bool x82)] [(62, [⟨(.int .i64), xb62_0⟩, ⟨(.int .i64), xb62_1⟩]), (63, [⟨(.int .i64), xb63_0⟩, ⟨(.int .i64), xb63_1⟩]), (64, [⟨(.int .i64), xb64_0⟩, ⟨(.int .i64), xb64_1⟩]), (68, [⟨(.int .i64), xb68_0⟩, ⟨(.int .i64), xb68_1⟩]), (70, [⟨(.int .i64), xb70_0⟩, ⟨(.int .i64), xb70_1⟩])]
noncomputable def laws_FnBirthdaysMeet.j17 (x65 : Bool) (x69 : Int) (x71 : Bool) (x74 : List UInt8) (x75 : List (Int × Int)) (x76 : Bool) (xb62_0 : Int) (xb62_1 : Int) (xb63_0 : Int) (xb63_1 : Int) (xb64_0 : Int) (xb64_1 : Int) (xb68_0 : Int) (xb68_1 : Int) (xb70_0 : Int) (xb70_1 : Int) : Option (Bool) := runJ laws_FnBirthdaysMeet.g T laws_FnBirthdaysMeet.i [true, true, true, true, true, true, true, true, true, true, true, true, true, true, true, true, true, true, true, true, true, true, true, true, true, true, true, true, true, true, true, true, true, true] [(62, .ptr 62 0), (63, .ptr 63 0), (64, .ptr 64 0), (65, .val .bool x65), (68, .ptr 68 0), (69, .val (.int .i64) x69), (70, .ptr 70 0), (71, .val .bool x71), (74, .val .str x74), (75, .own 25 (.pair (.int .i64) (.int .i64)) x75), (76, .val .bool x76)] [(62, [⟨(.int .i64), xb62_0⟩, ⟨(.int .i64), xb62_1⟩]), (63, [⟨(.int .i64), xb63_0⟩, ⟨(.int .i64), xb63_1⟩]), (64, [⟨(.int .i64), xb64_0⟩, ⟨(.int .i64), xb64_1⟩]), (68, [⟨(.int .i64), xb68_0⟩, ⟨(.int .i64), xb68_1⟩]), (70, [⟨(.int .i64), xb70_0⟩, ⟨(.int .i64), xb70_1⟩])]
noncomputable def laws_FnBirthdaysMeet.j18 (x69 : Int) (x71 : Bool) (x74 : List UInt8) (x75 : List (Int × Int)) (x76 : Bool) (x83 : Int) (x84 : Bool) (x85 : Int) (x86 : Bool) (x87 : Int) (x88 : Bool) (xb68_0 : Int) (xb68_1 : Int) (xb70_0 : Int) (xb70_1 : Int) : Option (Bool) := runJ laws_FnBirthdaysMeet.g T laws_FnBirthdaysMeet.i [true, true, true, true, true, true, true, true, true, true, true, true, true, true, true, true, true, true, true, true, true, true, true, true, true, true, true, true, true, true, true, true, true, true, false, true, false, true, true, true] [(68, .ptr 68 0), (69, .val (.int .i64) x69), (70, .ptr 70 0), (71, .val .bool x71), (74, .val .str x74), (75, .own 25 (.pair (.int .i64) (.int .i64)) x75), (76, .val .bool x76), (83, .val (.int .i64) x83), (84, .val .bool x84), (85, .val (.int .i64) x85), (86, .val .bool x86), (87, .val (.int .i64) x87), (88, .val .bool x88)] [(68, [⟨(.int .i64), xb68_0⟩, ⟨(.int .i64), xb68_1⟩]), (70, [⟨(.int .i64), xb70_0⟩, ⟨(.int .i64), xb70_1⟩])]
noncomputable def laws_FnBirthdaysMeet.j19 (x69 : Int) (x71 : Bool) (x74 : List UInt8) (x75 : List (Int × Int)) (x76 : Bool) (xb68_0 : Int) (xb68_1 : Int) (xb70_0 : Int) (xb70_1 : Int) : Option (Bool) := runJ laws_FnBirthdaysMeet.g T laws_FnBirthdaysMeet.i [true, true, true, true, true, true, true, true, true, true, true, true, true, true, true, true, true, true, true, true, true, true, true, true, true, true, true, true, true, true, true, true, true, true, true] [(68, .ptr 68 0), (69, .val (.int .i64) x69), (70, .ptr 70 0), (71, .val .bool x71), (74, .val .str x74), (75, .own 25 (.pair (.int .i64) (.int .i64)) x75), (76, .val .bool x76)] [(68, [⟨(.int .i64), xb68_0⟩, ⟨(.int .i64), xb68_1⟩]), (70, [⟨(.int .i64), xb70_0⟩, ⟨(.int .i64), xb70_1⟩])]
noncomputable def laws_FnBirthdaysMeet.j20 (x74 : List UInt8) (x75 : List (Int × Int)) (x76 : Bool) (x736 : Bool) : Option (Bool) := runJ laws_FnBirthdaysMeet.g T laws_FnBirthdaysMeet.i [true, true, true, true, true, true, true, true, true, true, true, true, true, true, true, true, true, true, true, true, true, true, true, true, true, true, true, true, true, true, true, true, true, true, true, false, true, false, true, true] [(74, .val .str x74), (75, .own 25 (.pair (.int .i64) (.int .i64)) x75), (76, .val .bool x76), (736, .val .bool x736)] []
theorem laws_FnBirthdaysMeet.f.eq (x0 : List Int) (x1 : List Int) : laws_FnBirthdaysMeet.f x0 x1 =
  (laws_big.f x0 x1).bind fun y1 =>
  if y1 = true then
    some true
  else
    (spec_DrawDaysAlike.f x0).bind fun y2 =>
    (impl_DaysAlike.f (y2.1.1, y2.1.2) (y2.2.1.1, y2.2.1.2) y2.2.2).bind fun y3 =>
    (spec_DaysAlike.f (y2.1.1, y2.1.2) (y2.2.1.1, y2.2.1.2) y2.2.2).bind fun y4 =>
    (spec_DrawFirstSumOn.f x0).bind fun y5 =>
    (impl_FirstSumOn.f y5.1 y5.2).bind fun y6 =>
    (spec_FirstSumOn.f y5.1 y5.2).bind fun y7 =>
    (impl_OlderOf.f y5.1).bind fun y8 =>
    (spec_OlderOf.f y5.1).bind fun y9 =>
    (impl_BirthdaysOf.f y5.1).bind fun y10 =>
    laws_FnBirthdaysMeet.j0 x1 y3.1 y3.2 y4.1 y4.2 y5.1 y5.2 y6.2 y7.2 y8.1 y8.2 y9.1 y9.2 y10.1 y10.2 y2.1.1 y2.1.2 y2.2.1.1 y2.2.1.2 y6.1.1 y6.1.2 y7.1.1 y7.1.2 := by kernel_rfl
theorem laws_FnBirthdaysMeet.j0.eq (x1 : List Int) (x8 : Int) (x9 : Bool) (x10 : Int) (x11 : Bool) (x12 : List (Int × Int)) (x13 : Int) (x15 : Bool) (x17 : Bool) (x18 : List Int) (x19 : Bool) (x20 : List Int) (x21 : Bool) (x22 : List (List Int)) (x23 : Bool) (xb5_0 : Int) (xb5_1 : Int) (xb6_0 : Int) (xb6_1 : Int) (xb14_0 : Int) (xb14_1 : Int) (xb16_0 : Int) (xb16_1 : Int) : laws_FnBirthdaysMeet.j0 x1 x8 x9 x10 x11 x12 x13 x15 x17 x18 x19 x20 x21 x22 x23 xb5_0 xb5_1 xb6_0 xb6_1 xb14_0 xb14_1 xb16_0 xb16_1 =
  (spec_BirthdaysOf.f x12).bind fun y1 =>
  (impl_BirthsText.f x12).bind fun y2 =>
  (spec_BirthsText.f x12).bind fun y3 =>
  laws_FnBirthdaysMeet.j1 x1 x8 x9 x10 x11 x12 x13 x15 x17 x18 x19 x20 x21 x22 x23 y1.1 y1.2 y2.1 y2.2 y3.1 y3.2 xb5_0 xb5_1 xb6_0 xb6_1 xb14_0 xb14_1 xb16_0 xb16_1 := (runJ_eq _ _ _ _ _ _).trans (by kernel_rfl)
theorem laws_FnBirthdaysMeet.j1.eq (x1 : List Int) (x8 : Int) (x9 : Bool) (x10 : Int) (x11 : Bool) (x12 : List (Int × Int)) (x13 : Int) (x15 : Bool) (x17 : Bool) (x18 : List Int) (x19 : Bool) (x20 : List Int) (x21 : Bool) (x22 : List (List Int)) (x23 : Bool) (x24 : List (List Int)) (x25 : Bool) (x26 : List UInt8) (x27 : Bool) (x28 : List UInt8) (x29 : Bool) (xb5_0 : Int) (xb5_1 : Int) (xb6_0 : Int) (xb6_1 : Int) (xb14_0 : Int) (xb14_1 : Int) (xb16_0 : Int) (xb16_1 : Int) : laws_FnBirthdaysMeet.j1 x1 x8 x9 x10 x11 x12 x13 x15 x17 x18 x19 x20 x21 x22 x23 x24 x25 x26 x27 x28 x29 xb5_0 xb5_1 xb6_0 xb6_1 xb14_0 xb14_1 xb16_0 xb16_1 =
  if (!(x9 == x11)) = true then
    laws_FnBirthdaysMeet.j2 x1 x8 x9 x12 x13 x15 x18 x19 x22 x26 true xb5_0 xb5_1 xb6_0 xb6_1 xb14_0 xb14_1
  else
    if (if false = true then true else (x8 != x10)) = true then
      laws_FnBirthdaysMeet.j2 x1 x8 x9 x12 x13 x15 x18 x19 x22 x26 true xb5_0 xb5_1 xb6_0 xb6_1 xb14_0 xb14_1
    else
      if (if false = true then true else (!(x15 == x17))) = true then
        laws_FnBirthdaysMeet.j2 x1 x8 x9 x12 x13 x15 x18 x19 x22 x26 true xb5_0 xb5_1 xb6_0 xb6_1 xb14_0 xb14_1
      else
        if (if false = true then true else (!(xb14_0 == xb16_0 && xb14_1 == xb16_1))) = true then
          laws_FnBirthdaysMeet.j2 x1 x8 x9 x12 x13 x15 x18 x19 x22 x26 true xb5_0 xb5_1 xb6_0 xb6_1 xb14_0 xb14_1
        else
          if (if false = true then true else (!(x19 == x21))) = true then
            laws_FnBirthdaysMeet.j2 x1 x8 x9 x12 x13 x15 x18 x19 x22 x26 true xb5_0 xb5_1 xb6_0 xb6_1 xb14_0 xb14_1
          else
            (laws_gSame.f x18 x20).bind fun y65 =>
            if (if false = true then true else !y65) = true then
              laws_FnBirthdaysMeet.j2 x1 x8 x9 x12 x13 x15 x18 x19 x22 x26 true xb5_0 xb5_1 xb6_0 xb6_1 xb14_0 xb14_1
            else
              if (if false = true then true else (!(x23 == x25))) = true then
                laws_FnBirthdaysMeet.j2 x1 x8 x9 x12 x13 x15 x18 x19 x22 x26 true xb5_0 xb5_1 xb6_0 xb6_1 xb14_0 xb14_1
              else
                (laws_gRows.f x22 x24).bind fun y69 =>
                if (if false = true then true else !y69) = true then
                  laws_FnBirthdaysMeet.j2 x1 x8 x9 x12 x13 x15 x18 x19 x22 x26 true xb5_0 xb5_1 xb6_0 xb6_1 xb14_0 xb14_1
                else
                  if (if false = true then true else (!(x27 == x29))) = true then
                    laws_FnBirthdaysMeet.j2 x1 x8 x9 x12 x13 x15 x18 x19 x22 x26 true xb5_0 xb5_1 xb6_0 xb6_1 xb14_0 xb14_1
                  else
                    if (if false = true then true else (!(x26 == x28))) = true then
                      laws_FnBirthdaysMeet.j2 x1 x8 x9 x12 x13 x15 x18 x19 x22 x26 true xb5_0 xb5_1 xb6_0 xb6_1 xb14_0 xb14_1
                    else
                      (impl_AreBirthDates.f x12).bind fun y75 =>
                      if (if false = true then true else (!(x19 == y75))) = true then
                        laws_FnBirthdaysMeet.j2 x1 x8 x9 x12 x13 x15 x18 x19 x22 x26 true xb5_0 xb5_1 xb6_0 xb6_1 xb14_0 xb14_1
                      else
                        (impl_AreBirthDates.f x12).bind fun y78 =>
                        (spec_AreBirthDates.f x12).bind fun y79 =>
                        if (if false = true then true else (!(y78 == y79))) = true then
                          laws_FnBirthdaysMeet.j2 x1 x8 x9 x12 x13 x15 x18 x19 x22 x26 true xb5_0 xb5_1 xb6_0 xb6_1 xb14_0 xb14_1
                        else
                          if (if false = true then true else (!(x23 == x19))) = true then
                            laws_FnBirthdaysMeet.j2 x1 x8 x9 x12 x13 x15 x18 x19 x22 x26 true xb5_0 xb5_1 xb6_0 xb6_1 xb14_0 xb14_1
                          else
                            if (if false = true then true else (!(x27 == x19))) = true then
                              laws_FnBirthdaysMeet.j2 x1 x8 x9 x12 x13 x15 x18 x19 x22 x26 true xb5_0 xb5_1 xb6_0 xb6_1 xb14_0 xb14_1
                            else
                              if x15 = true then
                                laws_FnBirthdaysMeet.j2 x1 x8 x9 x12 x13 x15 x18 x19 x22 x26 (if false = true then true else (if true = true then !x19 else false)) xb5_0 xb5_1 xb6_0 xb6_1 xb14_0 xb14_1
                              else
                                laws_FnBirthdaysMeet.j2 x1 x8 x9 x12 x13 x15 x18 x19 x22 x26 false xb5_0 xb5_1 xb6_0 xb6_1 xb14_0 xb14_1 := (runJ_eq _ _ _ _ _ _).trans (by kernel_rfl)
theorem laws_FnBirthdaysMeet.j2.eq (x1 : List Int) (x8 : Int) (x9 : Bool) (x12 : List (Int × Int)) (x13 : Int) (x15 : Bool) (x18 : List Int) (x19 : Bool) (x22 : List (List Int)) (x26 : List UInt8) (x242 : Bool) (xb5_0 : Int) (xb5_1 : Int) (xb6_0 : Int) (xb6_1 : Int) (xb14_0 : Int) (xb14_1 : Int) : laws_FnBirthdaysMeet.j2 x1 x8 x9 x12 x13 x15 x18 x19 x22 x26 x242 xb5_0 xb5_1 xb6_0 xb6_1 xb14_0 xb14_1 =
  if x242 = true then
    some false
  else
    if x9 = true then
      let y1 := IntKind.i64.wrap (xb5_1 - xb6_1)
      if (decide (y1 < 0)) = true then
        laws_FnBirthdaysMeet.j3 x1 x8 x12 x13 x15 x18 x19 x22 x26 (IntKind.i64.wrap (0 - y1)) xb5_0 xb5_1 xb6_0 xb6_1 xb14_0 xb14_1
      else
        laws_FnBirthdaysMeet.j3 x1 x8 x12 x13 x15 x18 x19 x22 x26 y1 xb5_0 xb5_1 xb6_0 xb6_1 xb14_0 xb14_1
    else
      laws_FnBirthdaysMeet.j6 x1 x12 x13 x15 x18 x19 x22 x26 xb14_0 xb14_1 := (runJ_eq _ _ _ _ _ _).trans (by kernel_rfl)
theorem laws_FnBirthdaysMeet.j3.eq (x1 : List Int) (x8 : Int) (x12 : List (Int × Int)) (x13 : Int) (x15 : Bool) (x18 : List Int) (x19 : Bool) (x22 : List (List Int)) (x26 : List UInt8) (x30 : Int) (xb5_0 : Int) (xb5_1 : Int) (xb6_0 : Int) (xb6_1 : Int) (xb14_0 : Int) (xb14_1 : Int) : laws_FnBirthdaysMeet.j3 x1 x8 x12 x13 x15 x18 x19 x22 x26 x30 xb5_0 xb5_1 xb6_0 xb6_1 xb14_0 xb14_1 =
  (impl_GreatestGap.f (xb5_0, xb5_1) (xb6_0, xb6_1)).bind fun y1 =>
  if (!y1.2.2) = true then
    (impl_GreatestGap.f (xb6_0, xb6_1) (xb5_0, xb5_1)).bind fun y2 =>
    laws_FnBirthdaysMeet.j4 x1 x8 x12 x13 x15 x18 x19 x22 x26 x30 y2.1 y2.2.1 y2.2.2 xb5_0 xb5_1 xb6_0 xb6_1 xb14_0 xb14_1
  else
    laws_FnBirthdaysMeet.j4 x1 x8 x12 x13 x15 x18 x19 x22 x26 x30 y1.1 y1.2.1 y1.2.2 xb5_0 xb5_1 xb6_0 xb6_1 xb14_0 xb14_1 := (runJ_eq _ _ _ _ _ _).trans (by kernel_rfl)
theorem laws_FnBirthdaysMeet.j4.eq (x1 : List Int) (x8 : Int) (x12 : List (Int × Int)) (x13 : Int) (x15 : Bool) (x18 : List Int) (x19 : Bool) (x22 : List (List Int)) (x26 : List UInt8) (x30 : Int) (x31 : Int) (x32 : Int) (x33 : Bool) (xb5_0 : Int) (xb5_1 : Int) (xb6_0 : Int) (xb6_1 : Int) (xb14_0 : Int) (xb14_1 : Int) : laws_FnBirthdaysMeet.j4 x1 x8 x12 x13 x15 x18 x19 x22 x26 x30 x31 x32 x33 xb5_0 xb5_1 xb6_0 xb6_1 xb14_0 xb14_1 =
  if (decide (x8 < 0)) = true then
    laws_FnBirthdaysMeet.j5 x1 x8 x12 x13 x15 x18 x19 x22 x26 x30 x31 x32 true xb14_0 xb14_1
  else
    if (if false = true then true else (decide (x8 > 365))) = true then
      laws_FnBirthdaysMeet.j5 x1 x8 x12 x13 x15 x18 x19 x22 x26 x30 x31 x32 true xb14_0 xb14_1
    else
      if (if false = true then true else !x33) = true then
        laws_FnBirthdaysMeet.j5 x1 x8 x12 x13 x15 x18 x19 x22 x26 x30 x31 x32 true xb14_0 xb14_1
      else
        if (if false = true then true else (decide ((IntKind.i64.wrap (x32 - x31)) > 1))) = true then
          laws_FnBirthdaysMeet.j5 x1 x8 x12 x13 x15 x18 x19 x22 x26 x30 x31 x32 true xb14_0 xb14_1
        else
          if (if false = true then true else (decide (x31 < 0))) = true then
            laws_FnBirthdaysMeet.j5 x1 x8 x12 x13 x15 x18 x19 x22 x26 x30 x31 x32 true xb14_0 xb14_1
          else
            if (if false = true then true else (!((x31 == x32) == (xb5_1 == xb6_1)))) = true then
              laws_FnBirthdaysMeet.j5 x1 x8 x12 x13 x15 x18 x19 x22 x26 x30 x31 x32 true xb14_0 xb14_1
            else
              laws_FnBirthdaysMeet.j5 x1 x8 x12 x13 x15 x18 x19 x22 x26 x30 x31 x32 (if false = true then true else (!((decide (x8 > 0)) == (x31 == 0)))) xb14_0 xb14_1 := (runJ_eq _ _ _ _ _ _).trans (by kernel_rfl)
theorem laws_FnBirthdaysMeet.j5.eq (x1 : List Int) (x8 : Int) (x12 : List (Int × Int)) (x13 : Int) (x15 : Bool) (x18 : List Int) (x19 : Bool) (x22 : List (List Int)) (x26 : List UInt8) (x30 : Int) (x31 : Int) (x32 : Int) (x306 : Bool) (xb14_0 : Int) (xb14_1 : Int) : laws_FnBirthdaysMeet.j5 x1 x8 x12 x13 x15 x18 x19 x22 x26 x30 x31 x32 x306 xb14_0 xb14_1 =
  if x306 = true then
    some false
  else
    if (decide (x8 > 0)) = true then
      if (if true = true then (x31 != x32) else false) = true then
        if (if true = true then (x8 != x30) else false) = true then
          if (if true = true then x8 != (IntKind.i64.wrap (365 - x30)) else false) = true then
            some false
          else
            laws_FnBirthdaysMeet.j6 x1 x12 x13 x15 x18 x19 x22 x26 xb14_0 xb14_1
        else
          laws_FnBirthdaysMeet.j6 x1 x12 x13 x15 x18 x19 x22 x26 xb14_0 xb14_1
      else
        laws_FnBirthdaysMeet.j6 x1 x12 x13 x15 x18 x19 x22 x26 xb14_0 xb14_1
    else
      laws_FnBirthdaysMeet.j6 x1 x12 x13 x15 x18 x19 x22 x26 xb14_0 xb14_1 := (runJ_eq _ _ _ _ _ _).trans (by kernel_rfl)
theorem laws_FnBirthdaysMeet.j6.eq (x1 : List Int) (x12 : List (Int × Int)) (x13 : Int) (x15 : Bool) (x18 : List Int) (x19 : Bool) (x22 : List (List Int)) (x26 : List UInt8) (xb14_0 : Int) (xb14_1 : Int) : laws_FnBirthdaysMeet.j6 x1 x12 x13 x15 x18 x19 x22 x26 xb14_0 xb14_1 =
  if x15 = true then
    (impl_SumOfAgesOn.f x12 (xb14_0, xb14_1)).bind fun y1 =>
    (impl_AddDays.f (xb14_0, xb14_1) (-1)).bind fun y2 =>
    if (!y1.2) = true then
      laws_FnBirthdaysMeet.j7 x1 x12 x13 x18 x19 x22 x26 y2.2 true y2.1.1 y2.1.2
    else
      laws_FnBirthdaysMeet.j7 x1 x12 x13 x18 x19 x22 x26 y2.2 (if false = true then true else (decide (y1.1 < x13))) y2.1.1 y2.1.2
  else
    laws_FnBirthdaysMeet.j8 x1 x12 x18 x19 x22 x26 := (runJ_eq _ _ _ _ _ _).trans (by kernel_rfl)
theorem laws_FnBirthdaysMeet.j7.eq (x1 : List Int) (x12 : List (Int × Int)) (x13 : Int) (x18 : List Int) (x19 : Bool) (x22 : List (List Int)) (x26 : List UInt8) (x37 : Bool) (x343 : Bool) (xb36_0 : Int) (xb36_1 : Int) : laws_FnBirthdaysMeet.j7 x1 x12 x13 x18 x19 x22 x26 x37 x343 xb36_0 xb36_1 =
  if x343 = true then
    some false
  else
    if x37 = true then
      (impl_SumOfAgesOn.f x12 (xb36_0, xb36_1)).bind fun y1 =>
      if y1.2 = true then
        if (if true = true then (decide (y1.1 ≥ x13)) else false) = true then
          some false
        else
          laws_FnBirthdaysMeet.j8 x1 x12 x18 x19 x22 x26
      else
        laws_FnBirthdaysMeet.j8 x1 x12 x18 x19 x22 x26
    else
      laws_FnBirthdaysMeet.j8 x1 x12 x18 x19 x22 x26 := (runJ_eq _ _ _ _ _ _).trans (by kernel_rfl)
theorem laws_FnBirthdaysMeet.j8.eq (x1 : List Int) (x12 : List (Int × Int)) (x18 : List Int) (x19 : Bool) (x22 : List (List Int)) (x26 : List UInt8) : laws_FnBirthdaysMeet.j8 x1 x12 x18 x19 x22 x26 =
  if x19 = true then
    (impl_ParseBirths.f x26).bind fun y1 =>
    laws_FnBirthdaysMeet.j9 x1 x12 x18 x22 y1.1 y1.2
  else
    laws_FnBirthdaysMeet.j12 x1 := (runJ_eq _ _ _ _ _ _).trans (by kernel_rfl)
theorem laws_FnBirthdaysMeet.j9.eq (x1 : List Int) (x12 : List (Int × Int)) (x18 : List Int) (x22 : List (List Int)) (x40 : List (Int × Int)) (x41 : Bool) : laws_FnBirthdaysMeet.j9 x1 x12 x18 x22 x40 x41 =
  if ((x18.length : Int) != (x12.length : Int)) = true then
    laws_FnBirthdaysMeet.j10 x1 x12 x18 x22 true
  else
    if (if false = true then true else !x41) = true then
      laws_FnBirthdaysMeet.j10 x1 x12 x18 x22 true
    else
      (laws_gDates.f x40 x12).bind fun y38 =>
      laws_FnBirthdaysMeet.j10 x1 x12 x18 x22 (if false = true then true else !y38) := (runJ_eq _ _ _ _ _ _).trans (by kernel_rfl)
theorem laws_FnBirthdaysMeet.j10.eq (x1 : List Int) (x12 : List (Int × Int)) (x18 : List Int) (x22 : List (List Int)) (x377 : Bool) : laws_FnBirthdaysMeet.j10 x1 x12 x18 x22 x377 =
  if x377 = true then
    some false
  else
    laws_FnBirthdaysMeet.l0 x1 x12 x18 x22 1 := (runJ_eq _ _ _ _ _ _).trans (by kernel_rfl)
theorem laws_FnBirthdaysMeet.l0.eq (x1 : List Int) (x12 : List (Int × Int)) (x18 : List Int) (x22 : List (List Int)) (x42 : Int) : laws_FnBirthdaysMeet.l0 x1 x12 x18 x22 x42 =
  if (decide (x42 < (x18.length : Int))) = true then
    (rdI x18 (IntKind.i64.wrap (x42 - 1))).bind fun y4 =>
    (rdI x12 y4).bind fun y5 =>
    (rdI x18 x42).bind fun y6 =>
    (rdI x12 y6).bind fun y7 =>
    if (decide (y5.1 > y7.1)) = true then
      some false
    else
      if (y5.1 == y7.1) = true then
        if (if false = true then true else (if true = true then (decide (y5.2 > y7.2)) else false)) = true then
          some false
        else
          if (y5.1 == y7.1 && y5.2 == y7.2) = true then
            (rdI x18 (IntKind.i64.wrap (x42 - 1))).bind fun y15 =>
            (rdI x18 x42).bind fun y16 =>
            if (if false = true then true else (if true = true then (decide (y15 > y16)) else false)) = true then
              some false
            else
              laws_FnBirthdaysMeet.l0 x1 x12 x18 x22 (IntKind.i64.wrap (x42 + 1))
          else
            laws_FnBirthdaysMeet.l0 x1 x12 x18 x22 (IntKind.i64.wrap (x42 + 1))
      else
        if (y5.1 == y7.1 && y5.2 == y7.2) = true then
          (rdI x18 (IntKind.i64.wrap (x42 - 1))).bind fun y24 =>
          (rdI x18 x42).bind fun y25 =>
          if (if false = true then true else (if true = true then (decide (y24 > y25)) else false)) = true then
            some false
          else
            laws_FnBirthdaysMeet.l0 x1 x12 x18 x22 (IntKind.i64.wrap (x42 + 1))
        else
          laws_FnBirthdaysMeet.l0 x1 x12 x18 x22 (IntKind.i64.wrap (x42 + 1))
  else
    laws_FnBirthdaysMeet.l1 x1 x12 x22 0 (x22.length : Int) 0 := (runAt_loop _ _ _ _ _ _).trans (by kernel_rfl)
theorem laws_FnBirthdaysMeet.l1.eq (x1 : List Int) (x12 : List (Int × Int)) (x22 : List (List Int)) (x45 : Int) (x436 : Int) (x437 : Int) : laws_FnBirthdaysMeet.l1 x1 x12 x22 x45 x436 x437 =
  if (decide (x437 < x436)) = true then
    (rdI x22 x437).bind fun y2 =>
    if (decide ((y2.length : Int) < 2)) = true then
      laws_FnBirthdaysMeet.j11 x1 x12 x22 x45 y2 x436 x437 true
    else
      if (decide (x437 > 0)) = true then
        (rdI x22 (IntKind.i64.wrap (x437 - 1))).bind fun y16 =>
        (rdI y16 0).bind fun y17 =>
        (rdI y2 0).bind fun y18 =>
        if (if false = true then true else (if true = true then (decide (y17 ≥ y18)) else false)) = true then
          laws_FnBirthdaysMeet.j11 x1 x12 x22 x45 y2 x436 x437 true
        else
          (subI y2 1 y2.length).bind fun y22 =>
          (laws_gRises.f y22).bind fun y23 =>
          laws_FnBirthdaysMeet.j11 x1 x12 x22 x45 y2 x436 x437 (if false = true then true else !y23)
      else
        (subI y2 1 y2.length).bind fun y25 =>
        (laws_gRises.f y25).bind fun y26 =>
        laws_FnBirthdaysMeet.j11 x1 x12 x22 x45 y2 x436 x437 (if false = true then true else !y26)
  else
    if (x45 != (x12.length : Int)) = true then
      some false
    else
      laws_FnBirthdaysMeet.j12 x1 := (runAt_loop _ _ _ _ _ _).trans (by kernel_rfl)
theorem laws_FnBirthdaysMeet.j11.eq (x1 : List Int) (x12 : List (Int × Int)) (x22 : List (List Int)) (x45 : Int) (x47 : List Int) (x436 : Int) (x437 : Int) (x467 : Bool) : laws_FnBirthdaysMeet.j11 x1 x12 x22 x45 x47 x436 x437 x467 =
  if x467 = true then
    some false
  else
    (subI x47 1 x47.length).bind fun y1 =>
    laws_FnBirthdaysMeet.l2 x1 x12 x22 x45 x47 x436 x437 y1 (y1.length : Int) 0 := (runJ_eq _ _ _ _ _ _).trans (by kernel_rfl)
theorem laws_FnBirthdaysMeet.l2.eq (x1 : List Int) (x12 : List (Int × Int)) (x22 : List (List Int)) (x45 : Int) (x47 : List Int) (x436 : Int) (x437 : Int) (x469 : List Int) (x470 : Int) (x471 : Int) : laws_FnBirthdaysMeet.l2 x1 x12 x22 x45 x47 x436 x437 x469 x470 x471 =
  if (decide (x471 < x470)) = true then
    (rdI x469 x471).bind fun y2 =>
    if (decide (y2 < 0)) = true then
      some false
    else
      if (if false = true then true else (decide (y2 ≥ (x12.length : Int)))) = true then
        some false
      else
        (rdI x12 y2).bind fun y7 =>
        (rdI x47 0).bind fun y8 =>
        if (if false = true then true else (y7.2 != y8)) = true then
          some false
        else
          laws_FnBirthdaysMeet.l2 x1 x12 x22 (IntKind.i64.wrap (x45 + 1)) x47 x436 x437 x469 x470 (IntKind.i64.wrap (x471 + 1))
  else
    laws_FnBirthdaysMeet.l1 x1 x12 x22 x45 x436 (IntKind.i64.wrap (x437 + 1)) := (runAt_loop _ _ _ _ _ _).trans (by kernel_rfl)
theorem laws_FnBirthdaysMeet.j12.eq (x1 : List Int) : laws_FnBirthdaysMeet.j12 x1 =
  (spec_DrawTwiceAsOld.f x1).bind fun y1 =>
  (impl_TwiceAsOld.f (y1.1.1, y1.1.2) (y1.2.1, y1.2.2)).bind fun y2 =>
  (spec_TwiceAsOld.f (y1.1.1, y1.1.2) (y1.2.1, y1.2.2)).bind fun y3 =>
  (impl_GreatestGap.f (y1.1.1, y1.1.2) (y1.2.1, y1.2.2)).bind fun y4 =>
  (spec_GreatestGap.f (y1.1.1, y1.1.2) (y1.2.1, y1.2.2)).bind fun y5 =>
  laws_FnBirthdaysMeet.j13 x1 y2.2 y3.2 y4.1 y4.2.1 y4.2.2 y5.1 y5.2.1 y5.2.2 y1.1.1 y1.1.2 y1.2.1 y1.2.2 y2.1.1 y2.1.2 y3.1.1 y3.1.2 := (runJ_eq _ _ _ _ _ _).trans (by kernel_rfl)
theorem laws_FnBirthdaysMeet.j13.eq (x1 : List Int) (x53 : Bool) (x55 : Bool) (x56 : Int) (x57 : Int) (x58 : Bool) (x59 : Int) (x60 : Int) (x61 : Bool) (xb50_0 : Int) (xb50_1 : Int) (xb51_0 : Int) (xb51_1 : Int) (xb52_0 : Int) (xb52_1 : Int) (xb54_0 : Int) (xb54_1 : Int) : laws_FnBirthdaysMeet.j13 x1 x53 x55 x56 x57 x58 x59 x60 x61 xb50_0 xb50_1 xb51_0 xb51_1 xb52_0 xb52_1 xb54_0 xb54_1 =
  (spec_DrawHalfBirthday.f x1).bind fun y1 =>
  (impl_HalfBirthday.f (y1.1.1, y1.1.2) (y1.2.1, y1.2.2)).bind fun y2 =>
  (spec_HalfBirthday.f (y1.1.1, y1.1.2) (y1.2.1, y1.2.2)).bind fun y3 =>
  (spec_DrawDayOfDaysOld.f x1).bind fun y4 =>
  (impl_DayOfDaysOld.f (y4.1.1, y4.1.2) y4.2).bind fun y5 =>
  (spec_DayOfDaysOld.f (y4.1.1, y4.1.2) y4.2).bind fun y6 =>
  (spec_DrawParseBirths.f x1).bind fun y7 =>
  (impl_ParseBirths.f y7).bind fun y8 =>
  (spec_ParseBirths.f y7).bind fun y9 =>
  laws_FnBirthdaysMeet.j14 x53 x55 x56 x57 x58 x59 x60 x61 y2.2 y3.2 y4.2 y5.2 y6.2 y7 y8.1 y8.2 y9.1 y9.2 xb50_0 xb50_1 xb51_0 xb51_1 xb52_0 xb52_1 xb54_0 xb54_1 y1.1.1 y1.1.2 y1.2.1 y1.2.2 y2.1.1 y2.1.2 y3.1.1 y3.1.2 y4.1.1 y4.1.2 y5.1.1 y5.1.2 y6.1.1 y6.1.2 := (runJ_eq _ _ _ _ _ _).trans (by kernel_rfl)
theorem laws_FnBirthdaysMeet.j14.eq (x53 : Bool) (x55 : Bool) (x56 : Int) (x57 : Int) (x58 : Bool) (x59 : Int) (x60 : Int) (x61 : Bool) (x65 : Bool) (x67 : Bool) (x69 : Int) (x71 : Bool) (x73 : Bool) (x74 : List UInt8) (x75 : List (Int × Int)) (x76 : Bool) (x77 : List (Int × Int)) (x78 : Bool) (xb50_0 : Int) (xb50_1 : Int) (xb51_0 : Int) (xb51_1 : Int) (xb52_0 : Int) (xb52_1 : Int) (xb54_0 : Int) (xb54_1 : Int) (xb62_0 : Int) (xb62_1 : Int) (xb63_0 : Int) (xb63_1 : Int) (xb64_0 : Int) (xb64_1 : Int) (xb66_0 : Int) (xb66_1 : Int) (xb68_0 : Int) (xb68_1 : Int) (xb70_0 : Int) (xb70_1 : Int) (xb72_0 : Int) (xb72_1 : Int) : laws_FnBirthdaysMeet.j14 x53 x55 x56 x57 x58 x59 x60 x61 x65 x67 x69 x71 x73 x74 x75 x76 x77 x78 xb50_0 xb50_1 xb51_0 xb51_1 xb52_0 xb52_1 xb54_0 xb54_1 xb62_0 xb62_1 xb63_0 xb63_1 xb64_0 xb64_1 xb66_0 xb66_1 xb68_0 xb68_1 xb70_0 xb70_1 xb72_0 xb72_1 =
  if (!(x53 == x55)) = true then
    laws_FnBirthdaysMeet.j15 x53 x65 x69 x71 x74 x75 x76 true xb50_0 xb50_1 xb51_0 xb51_1 xb52_0 xb52_1 xb62_0 xb62_1 xb63_0 xb63_1 xb64_0 xb64_1 xb68_0 xb68_1 xb70_0 xb70_1
  else
    if (if false = true then true else (!(xb52_0 == xb54_0 && xb52_1 == xb54_1))) = true then
      laws_FnBirthdaysMeet.j15 x53 x65 x69 x71 x74 x75 x76 true xb50_0 xb50_1 xb51_0 xb51_1 xb52_0 xb52_1 xb62_0 xb62_1 xb63_0 xb63_1 xb64_0 xb64_1 xb68_0 xb68_1 xb70_0 xb70_1
    else
      if (if false = true then true else (!(x58 == x61))) = true then
        laws_FnBirthdaysMeet.j15 x53 x65 x69 x71 x74 x75 x76 true xb50_0 xb50_1 xb51_0 xb51_1 xb52_0 xb52_1 xb62_0 xb62_1 xb63_0 xb63_1 xb64_0 xb64_1 xb68_0 xb68_1 xb70_0 xb70_1
      else
        if (if false = true then true else (x56 != x59)) = true then
          laws_FnBirthdaysMeet.j15 x53 x65 x69 x71 x74 x75 x76 true xb50_0 xb50_1 xb51_0 xb51_1 xb52_0 xb52_1 xb62_0 xb62_1 xb63_0 xb63_1 xb64_0 xb64_1 xb68_0 xb68_1 xb70_0 xb70_1
        else
          if (if false = true then true else (x57 != x60)) = true then
            laws_FnBirthdaysMeet.j15 x53 x65 x69 x71 x74 x75 x76 true xb50_0 xb50_1 xb51_0 xb51_1 xb52_0 xb52_1 xb62_0 xb62_1 xb63_0 xb63_1 xb64_0 xb64_1 xb68_0 xb68_1 xb70_0 xb70_1
          else
            if (if false = true then true else (!(x65 == x67))) = true then
              laws_FnBirthdaysMeet.j15 x53 x65 x69 x71 x74 x75 x76 true xb50_0 xb50_1 xb51_0 xb51_1 xb52_0 xb52_1 xb62_0 xb62_1 xb63_0 xb63_1 xb64_0 xb64_1 xb68_0 xb68_1 xb70_0 xb70_1
            else
              if (if false = true then true else (!(xb64_0 == xb66_0 && xb64_1 == xb66_1))) = true then
                laws_FnBirthdaysMeet.j15 x53 x65 x69 x71 x74 x75 x76 true xb50_0 xb50_1 xb51_0 xb51_1 xb52_0 xb52_1 xb62_0 xb62_1 xb63_0 xb63_1 xb64_0 xb64_1 xb68_0 xb68_1 xb70_0 xb70_1
              else
                if (if false = true then true else (!(x71 == x73))) = true then
                  laws_FnBirthdaysMeet.j15 x53 x65 x69 x71 x74 x75 x76 true xb50_0 xb50_1 xb51_0 xb51_1 xb52_0 xb52_1 xb62_0 xb62_1 xb63_0 xb63_1 xb64_0 xb64_1 xb68_0 xb68_1 xb70_0 xb70_1
                else
                  if (if false = true then true else (!(xb70_0 == xb72_0 && xb70_1 == xb72_1))) = true then
                    laws_FnBirthdaysMeet.j15 x53 x65 x69 x71 x74 x75 x76 true xb50_0 xb50_1 xb51_0 xb51_1 xb52_0 xb52_1 xb62_0 xb62_1 xb63_0 xb63_1 xb64_0 xb64_1 xb68_0 xb68_1 xb70_0 xb70_1
                  else
                    if (if false = true then true else (!(x76 == x78))) = true then
                      laws_FnBirthdaysMeet.j15 x53 x65 x69 x71 x74 x75 x76 true xb50_0 xb50_1 xb51_0 xb51_1 xb52_0 xb52_1 xb62_0 xb62_1 xb63_0 xb63_1 xb64_0 xb64_1 xb68_0 xb68_1 xb70_0 xb70_1
                    else
                      (laws_gDates.f x75 x77).bind fun y33 =>
                      if (if false = true then true else !y33) = true then
                        laws_FnBirthdaysMeet.j15 x53 x65 x69 x71 x74 x75 x76 true xb50_0 xb50_1 xb51_0 xb51_1 xb52_0 xb52_1 xb62_0 xb62_1 xb63_0 xb63_1 xb64_0 xb64_1 xb68_0 xb68_1 xb70_0 xb70_1
                      else
                        if x53 = true then
                          laws_FnBirthdaysMeet.j15 x53 x65 x69 x71 x74 x75 x76 (if false = true then true else (if true = true then !x58 else false)) xb50_0 xb50_1 xb51_0 xb51_1 xb52_0 xb52_1 xb62_0 xb62_1 xb63_0 xb63_1 xb64_0 xb64_1 xb68_0 xb68_1 xb70_0 xb70_1
                        else
                          laws_FnBirthdaysMeet.j15 x53 x65 x69 x71 x74 x75 x76 false xb50_0 xb50_1 xb51_0 xb51_1 xb52_0 xb52_1 xb62_0 xb62_1 xb63_0 xb63_1 xb64_0 xb64_1 xb68_0 xb68_1 xb70_0 xb70_1 := (runJ_eq _ _ _ _ _ _).trans (by kernel_rfl)
theorem laws_FnBirthdaysMeet.j15.eq (x53 : Bool) (x65 : Bool) (x69 : Int) (x71 : Bool) (x74 : List UInt8) (x75 : List (Int × Int)) (x76 : Bool) (x639 : Bool) (xb50_0 : Int) (xb50_1 : Int) (xb51_0 : Int) (xb51_1 : Int) (xb52_0 : Int) (xb52_1 : Int) (xb62_0 : Int) (xb62_1 : Int) (xb63_0 : Int) (xb63_1 : Int) (xb64_0 : Int) (xb64_1 : Int) (xb68_0 : Int) (xb68_1 : Int) (xb70_0 : Int) (xb70_1 : Int) : laws_FnBirthdaysMeet.j15 x53 x65 x69 x71 x74 x75 x76 x639 xb50_0 xb50_1 xb51_0 xb51_1 xb52_0 xb52_1 xb62_0 xb62_1 xb63_0 xb63_1 xb64_0 xb64_1 xb68_0 xb68_1 xb70_0 xb70_1 =
  if x639 = true then
    some false
  else
    if x53 = true then
      (impl_DaysOld.f (xb50_0, xb50_1) (xb52_0, xb52_1)).bind fun y1 =>
      (impl_DaysOld.f (xb51_0, xb51_1) (xb52_0, xb52_1)).bind fun y2 =>
      laws_FnBirthdaysMeet.j16 x65 x69 x71 x74 x75 x76 y1.1 y1.2 y2.1 y2.2 xb62_0 xb62_1 xb63_0 xb63_1 xb64_0 xb64_1 xb68_0 xb68_1 xb70_0 xb70_1
    else
      laws_FnBirthdaysMeet.j17 x65 x69 x71 x74 x75 x76 xb62_0 xb62_1 xb63_0 xb63_1 xb64_0 xb64_1 xb68_0 xb68_1 xb70_0 xb70_1 := (runJ_eq _ _ _ _ _ _).trans (by kernel_rfl)
theorem laws_FnBirthdaysMeet.j16.eq (x65 : Bool) (x69 : Int) (x71 : Bool) (x74 : List UInt8) (x75 : List (Int × Int)) (x76 : Bool) (x79 : Int) (x80 : Bool) (x81 : Int) (x82 : Bool) (xb62_0 : Int) (xb62_1 : Int) (xb63_0 : Int) (xb63_1 : Int) (xb64_0 : Int) (xb64_1 : Int) (xb68_0 : Int) (xb68_1 : Int) (xb70_0 : Int) (xb70_1 : Int) : laws_FnBirthdaysMeet.j16 x65 x69 x71 x74 x75 x76 x79 x80 x81 x82 xb62_0 xb62_1 xb63_0 xb63_1 xb64_0 xb64_1 xb68_0 xb68_1 xb70_0 xb70_1 =
  if (!x80) = true then
    some false
  else
    if (if false = true then true else !x82) = true then
      some false
    else
      if (if false = true then true else (x79 != (IntKind.i64.wrap (2 * x81)))) = true then
        some false
      else
        if (if false = true then true else (decide (x81 < 1))) = true then
          some false
        else
          laws_FnBirthdaysMeet.j17 x65 x69 x71 x74 x75 x76 xb62_0 xb62_1 xb63_0 xb63_1 xb64_0 xb64_1 xb68_0 xb68_1 xb70_0 xb70_1 := (runJ_eq _ _ _ _ _ _).trans (by kernel_rfl)
theorem laws_FnBirthdaysMeet.j17.eq (x65 : Bool) (x69 : Int) (x71 : Bool) (x74 : List UInt8) (x75 : List (Int × Int)) (x76 : Bool) (xb62_0 : Int) (xb62_1 : Int) (xb63_0 : Int) (xb63_1 : Int) (xb64_0 : Int) (xb64_1 : Int) (xb68_0 : Int) (xb68_1 : Int) (xb70_0 : Int) (xb70_1 : Int) : laws_FnBirthdaysMeet.j17 x65 x69 x71 x74 x75 x76 xb62_0 xb62_1 xb63_0 xb63_1 xb64_0 xb64_1 xb68_0 xb68_1 xb70_0 xb70_1 =
  if x65 = true then
    (impl_DaysOld.f (xb62_0, xb62_1) (xb64_0, xb64_1)).bind fun y1 =>
    (impl_DaysApart.f (xb63_0, xb63_1) (xb64_0, xb64_1)).bind fun y2 =>
    (impl_DaysOld.f (xb62_0, xb62_1) (xb63_0, xb63_1)).bind fun y3 =>
    laws_FnBirthdaysMeet.j18 x69 x71 x74 x75 x76 y1.1 y1.2 y2.1 y2.2 y3.1 y3.2 xb68_0 xb68_1 xb70_0 xb70_1
  else
    laws_FnBirthdaysMeet.j19 x69 x71 x74 x75 x76 xb68_0 xb68_1 xb70_0 xb70_1 := (runJ_eq _ _ _ _ _ _).trans (by kernel_rfl)
theorem laws_FnBirthdaysMeet.j18.eq (x69 : Int) (x71 : Bool) (x74 : List UInt8) (x75 : List (Int × Int)) (x76 : Bool) (x83 : Int) (x84 : Bool) (x85 : Int) (x86 : Bool) (x87 : Int) (x88 : Bool) (xb68_0 : Int) (xb68_1 : Int) (xb70_0 : Int) (xb70_1 : Int) : laws_FnBirthdaysMeet.j18 x69 x71 x74 x75 x76 x83 x84 x85 x86 x87 x88 xb68_0 xb68_1 xb70_0 xb70_1 =
  if (!x84) = true then
    some false
  else
    if (if false = true then true else ((x83.tmod 365) != 182)) = true then
      some false
    else
      if (if false = true then true else !x86) = true then
        some false
      else
        if (if false = true then true else !x88) = true then
          some false
        else
          if (if false = true then true else (decide (x83 ≤ x87))) = true then
            some false
          else
            if (if false = true then true else (x85 != (IntKind.i64.wrap (x83 - x87)))) = true then
              some false
            else
              if (decide (x85 > 365)) = true then
                if (if false = true then true else (if true = true then (decide (x87 > 182)) else false)) = true then
                  some false
                else
                  laws_FnBirthdaysMeet.j19 x69 x71 x74 x75 x76 xb68_0 xb68_1 xb70_0 xb70_1
              else
                laws_FnBirthdaysMeet.j19 x69 x71 x74 x75 x76 xb68_0 xb68_1 xb70_0 xb70_1 := (runJ_eq _ _ _ _ _ _).trans (by kernel_rfl)
theorem laws_FnBirthdaysMeet.j19.eq (x69 : Int) (x71 : Bool) (x74 : List UInt8) (x75 : List (Int × Int)) (x76 : Bool) (xb68_0 : Int) (xb68_1 : Int) (xb70_0 : Int) (xb70_1 : Int) : laws_FnBirthdaysMeet.j19 x69 x71 x74 x75 x76 xb68_0 xb68_1 xb70_0 xb70_1 =
  if x71 = true then
    (impl_DaysOld.f (xb68_0, xb68_1) (xb70_0, xb70_1)).bind fun y1 =>
    if (!y1.2) = true then
      laws_FnBirthdaysMeet.j20 x74 x75 x76 true
    else
      laws_FnBirthdaysMeet.j20 x74 x75 x76 (if false = true then true else (y1.1 != x69))
  else
    if x76 = true then
      (impl_BirthsText.f x75).bind fun y6 =>
      if y6.2 = true then
        some (if true = true then (y6.1 == x74) else false)
      else
        some false
    else
      some true := (runJ_eq _ _ _ _ _ _).trans (by kernel_rfl)
theorem laws_FnBirthdaysMeet.j20.eq (x74 : List UInt8) (x75 : List (Int × Int)) (x76 : Bool) (x736 : Bool) : laws_FnBirthdaysMeet.j20 x74 x75 x76 x736 =
  if x736 = true then
    some false
  else
    if x76 = true then
      (impl_BirthsText.f x75).bind fun y1 =>
      if y1.2 = true then
        some (if true = true then (y1.1 == x74) else false)
      else
        some false
    else
      some true := (runJ_eq _ _ _ _ _ _).trans (by kernel_rfl)
end Go.Proofs.YtobblofdkpljfaaGreatDoor.S
