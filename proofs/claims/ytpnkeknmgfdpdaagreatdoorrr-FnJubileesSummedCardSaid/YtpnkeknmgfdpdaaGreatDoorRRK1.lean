/- What the functions of this seat come to, over plain values. No condition. -/
import Derived.Test.YtpnkeknmgfdpdaaGreatDoorRRK0
namespace Go.Proofs.YtpnkeknmgfdpdaaGreatDoorRR.S
open Go Go.Proofs.YtpnkeknmgfdpdaaGreatDoorRR.Eng Go.Proofs
set_option maxRecDepth 1000000
set_option linter.unusedVariables false
noncomputable def laws_qHas.g : Gam := []
theorem laws_qHas.gok : GOkI Tryz.prog I laws_qHas.g := GOkI.nil _ _
noncomputable def laws_qHas.i : FI := ⟨Tryz.f12, body Tryz.f12, (.seq .nil (.seq (.seq .nil (.blk (.loop [1, 7, 8, 9] [] (.seq .nil (.seq (.cond .nil .nil) (.seq (.blk (.seq .nil (.seq .nil (.cond (.seq .nil .nil) .nil)))) .nil)))))) (.seq .nil .nil))), [], [], [.res (.tmp 4) (.v .bool)]⟩
noncomputable def laws_qHas.sp : CSpec := mkSpec laws_qHas.g T laws_qHas.i
theorem laws_qHas.ok : SpecOk Tryz.prog I 12 laws_qHas.sp := mkSpec_ok hmix hI laws_qHas.gok tok laws_qHas.i Tryz.func12 (by kernel_rfl) (by kernel_rfl) (by kernel_rfl) (by kernel_rfl)
noncomputable def laws_qHas.f (x0 : List Int) (x1 : Int) : Option (Bool) := run laws_qHas.g T laws_qHas.i [.v (.slice (.int .i64)) x0, .v (.int .i64) x1]
noncomputable def laws_qHas.l0 (x1 : Int) (x7 : List Int) (x8 : Int) (x9 : Int) : Option (Bool) := runAt laws_qHas.g T laws_qHas.i [true, false, true, false] [(1, .val (.int .i64) x1), (7, .val (.slice (.int .i64)) x7), (8, .val (.int .i64) x8), (9, .val (.int .i64) x9)] []
theorem laws_qHas.f.eq (x0 : List Int) (x1 : Int) : laws_qHas.f x0 x1 =
  laws_qHas.l0 x1 x0 (x0.length : Int) 0 := by kernel_rfl
theorem laws_qHas.l0.eq (x1 : Int) (x7 : List Int) (x8 : Int) (x9 : Int) : laws_qHas.l0 x1 x7 x8 x9 =
  if (decide (x9 < x8)) = true then
    (rdI x7 x9).bind fun y2 =>
    if (y2 == x1) = true then
      some true
    else
      laws_qHas.l0 x1 x7 x8 (IntKind.i64.wrap (x9 + 1))
  else
    some false := (runAt_loop _ _ _ _ _ _).trans (by kernel_rfl)
noncomputable def spec_DrawSumOfAges.g : Gam := [(81, spec_l1Cur_born.sp), (82, spec_l1Cur_year.sp)]
theorem spec_DrawSumOfAges.gok : GOkI Tryz.prog I spec_DrawSumOfAges.g := ((GOkI.nil _ _).cons spec_l1Cur_year.ok).cons spec_l1Cur_born.ok
noncomputable def spec_DrawSumOfAges.i : FI := ⟨Tryz.f13, body Tryz.f13, (.seq .nil (.seq .nil (.seq .nil .nil))), [], [], [.res (.tmp 2) (.own 3 (.int .i64)), .res (.tmp 3) (.v (.int .i64))]⟩
noncomputable def spec_DrawSumOfAges.sp : CSpec := mkSpec spec_DrawSumOfAges.g T spec_DrawSumOfAges.i
theorem spec_DrawSumOfAges.ok : SpecOk Tryz.prog I 13 spec_DrawSumOfAges.sp := mkSpec_ok hmix hI spec_DrawSumOfAges.gok tok spec_DrawSumOfAges.i Tryz.func13 (by kernel_rfl) (by kernel_rfl) (by kernel_rfl) (by kernel_rfl)
noncomputable def spec_DrawSumOfAges.f (x0 : List Int) : Option ((List Int) × Int) := run spec_DrawSumOfAges.g T spec_DrawSumOfAges.i [.v (.slice (.int .u8)) x0]
theorem spec_DrawSumOfAges.f.eq (x0 : List Int) : spec_DrawSumOfAges.f x0 =
  (spec_l1Cur_born.f x0 0 0).bind fun y1 =>
  (spec_l1Cur_year.f y1.2.1 y1.2.2.1 y1.2.2.2).bind fun y2 =>
  some (y1.1, y2.1) := by kernel_rfl
noncomputable def spec_roYear.g : Gam := [(91, spec_roBorn.sp), (92, spec_l1In.sp)]
theorem spec_roYear.gok : GOkI Tryz.prog I spec_roYear.g := ((GOkI.nil _ _).cons spec_l1In.ok).cons spec_roBorn.ok
noncomputable def spec_roYear.i : FI := ⟨Tryz.f83, body Tryz.f83, (.seq .nil (.seq .nil .nil)), [], [], [.res (.tmp 4) (.v .bool)]⟩
noncomputable def spec_roYear.sp : CSpec := mkSpec spec_roYear.g T spec_roYear.i
theorem spec_roYear.ok : SpecOk Tryz.prog I 83 spec_roYear.sp := mkSpec_ok hmix hI spec_roYear.gok tok spec_roYear.i Tryz.func83 (by kernel_rfl) (by kernel_rfl) (by kernel_rfl) (by kernel_rfl)
noncomputable def spec_roYear.f (x0 : List Int) (x1 : Int) : Option (Bool) := run spec_roYear.g T spec_roYear.i [.v (.slice (.int .i64)) x0, .v (.int .i64) x1]
theorem spec_roYear.f.eq (x0 : List Int) (x1 : Int) : spec_roYear.f x0 x1 =
  (spec_roBorn.f x0).bind fun y1 =>
  if y1 = true then
    (spec_l1In.f x1 0 3000).bind fun y2 =>
    some (if true = true then y2 else false)
  else
    some false := by kernel_rfl
noncomputable def spec_SumOfAges.g : Gam := [(83, spec_roYear.sp), (79, spec_roSum.sp)]
theorem spec_SumOfAges.gok : GOkI Tryz.prog I spec_SumOfAges.g := ((GOkI.nil _ _).cons spec_roSum.ok).cons spec_roYear.ok
noncomputable def spec_SumOfAges.i : FI := ⟨Tryz.f14, body Tryz.f14, (.seq .nil (.seq (.seq .nil (.cond (.seq .nil .nil) .nil)) (.seq .nil .nil))), [], [], [.res (.tmp 4) (.v (.int .i64)), .res (.tmp 5) (.v .bool)]⟩
noncomputable def spec_SumOfAges.sp : CSpec := mkSpec spec_SumOfAges.g T spec_SumOfAges.i
theorem spec_SumOfAges.ok : SpecOk Tryz.prog I 14 spec_SumOfAges.sp := mkSpec_ok hmix hI spec_SumOfAges.gok tok spec_SumOfAges.i Tryz.func14 (by kernel_rfl) (by kernel_rfl) (by kernel_rfl) (by kernel_rfl)
noncomputable def spec_SumOfAges.f (x0 : List Int) (x1 : Int) : Option (Int × Bool) := run spec_SumOfAges.g T spec_SumOfAges.i [.v (.slice (.int .i64)) x0, .v (.int .i64) x1]
theorem spec_SumOfAges.f.eq (x0 : List Int) (x1 : Int) : spec_SumOfAges.f x0 x1 =
  (spec_roYear.f x0 x1).bind fun y1 =>
  if (!y1) = true then
    some (0, false)
  else
    (spec_roSum.f x0 x1).bind fun y2 =>
    some (y2, true) := by kernel_rfl
noncomputable def impl_divisor.g : Gam := []
theorem impl_divisor.gok : GOkI Tryz.prog I impl_divisor.g := GOkI.nil _ _
noncomputable def impl_divisor.i : FI := ⟨Tryz.f85, body Tryz.f85, (.seq .nil (.seq (.blk (.loop [0, 1] [] (.seq (.seq .nil (.cond .nil .nil)) (.blk .nil)))) (.seq .nil .nil))), [], [], [.res (.tmp 4) (.v (.int .i64))]⟩
noncomputable def impl_divisor.sp : CSpec := mkSpec impl_divisor.g T impl_divisor.i
theorem impl_divisor.ok : SpecOk Tryz.prog I 85 impl_divisor.sp := mkSpec_ok hmix hI impl_divisor.gok tok impl_divisor.i Tryz.func85 (by kernel_rfl) (by kernel_rfl) (by kernel_rfl) (by kernel_rfl)
noncomputable def impl_divisor.f (x0 : Int) (x1 : Int) : Option (Int) := run impl_divisor.g T impl_divisor.i [.v (.int .i64) x0, .v (.int .i64) x1]
noncomputable def impl_divisor.l0 (x0 : Int) (x1 : Int) : Option (Int) := runAt impl_divisor.g T impl_divisor.i [true, false, false] [(0, .val (.int .i64) x0), (1, .val (.int .i64) x1)] []
theorem impl_divisor.f.eq (x0 : Int) (x1 : Int) : impl_divisor.f x0 x1 =
  impl_divisor.l0 x0 x1 := by kernel_rfl
theorem impl_divisor.l0.eq (x0 : Int) (x1 : Int) : impl_divisor.l0 x0 x1 =
  if (x1 != 0) = true then
    if x1 = 0 then
      none
    else
      impl_divisor.l0 x1 (x0.tmod x1)
  else
    some (mx2 x0 (IntKind.i64.wrap (0 - x0))) := (runAt_loop _ _ _ _ _ _).trans (by kernel_rfl)
noncomputable def impl_SharedEvery.g : Gam := [(34, impl_AreBirths.sp), (84, impl_ageIn.sp), (85, impl_divisor.sp), (80, impl_isYear.sp)]
theorem impl_SharedEvery.gok : GOkI Tryz.prog I impl_SharedEvery.g := ((((GOkI.nil _ _).cons impl_isYear.ok).cons impl_divisor.ok).cons impl_ageIn.ok).cons impl_AreBirths.ok
noncomputable def impl_SharedEvery.i : FI := ⟨Tryz.f15, body Tryz.f15, (.seq .nil (.seq (.cut [0, 1, 18] [] .nil (.cond (.seq .nil .nil) .nil)) (.seq .nil (.seq (.seq .nil (.blk (.loop [1, 6, 19, 20, 21] [] (.seq .nil (.seq (.cond .nil .nil) (.seq (.blk (.seq .nil (.seq .nil (.seq (.seq .nil (.cond (.seq .nil .nil) .nil)) .nil)))) .nil)))))) (.seq .nil .nil))))), [], [], [.res (.tmp 4) (.v (.int .i64)), .res (.tmp 5) (.v .bool)]⟩
noncomputable def impl_SharedEvery.sp : CSpec := mkSpec impl_SharedEvery.g T impl_SharedEvery.i
theorem impl_SharedEvery.ok : SpecOk Tryz.prog I 15 impl_SharedEvery.sp := mkSpec_ok hmix hI impl_SharedEvery.gok tok impl_SharedEvery.i Tryz.func15 (by kernel_rfl) (by kernel_rfl) (by kernel_rfl) (by kernel_rfl)
noncomputable def impl_SharedEvery.f (x0 : List Int) (x1 : Int) : Option (Int × Bool) := run impl_SharedEvery.g T impl_SharedEvery.i [.v (.slice (.int .i64)) x0, .v (.int .i64) x1]
noncomputable def impl_SharedEvery.j0 (x0 : List Int) (x1 : Int) (x18 : Bool) : Option (Int × Bool) := runJ impl_SharedEvery.g T impl_SharedEvery.i [true, false, true] [(0, .val (.slice (.int .i64)) x0), (1, .val (.int .i64) x1), (18, .val .bool x18)] []
noncomputable def impl_SharedEvery.l0 (x1 : Int) (x6 : Int) (x19 : List Int) (x20 : Int) (x21 : Int) : Option (Int × Bool) := runAt impl_SharedEvery.g T impl_SharedEvery.i [true, true, true, false, true, false] [(1, .val (.int .i64) x1), (6, .val (.int .i64) x6), (19, .val (.slice (.int .i64)) x19), (20, .val (.int .i64) x20), (21, .val (.int .i64) x21)] []
theorem impl_SharedEvery.f.eq (x0 : List Int) (x1 : Int) : impl_SharedEvery.f x0 x1 =
  (impl_AreBirths.f x0).bind fun y1 =>
  if (!y1) = true then
    impl_SharedEvery.j0 x0 x1 true
  else
    (impl_isYear.f x1).bind fun y7 =>
    impl_SharedEvery.j0 x0 x1 (if false = true then true else !y7) := by kernel_rfl
theorem impl_SharedEvery.j0.eq (x0 : List Int) (x1 : Int) (x18 : Bool) : impl_SharedEvery.j0 x0 x1 x18 =
  if x18 = true then
    some (0, false)
  else
    impl_SharedEvery.l0 x1 0 x0 (x0.length : Int) 0 := (runJ_eq _ _ _ _ _ _).trans (by kernel_rfl)
theorem impl_SharedEvery.l0.eq (x1 : Int) (x6 : Int) (x19 : List Int) (x20 : Int) (x21 : Int) : impl_SharedEvery.l0 x1 x6 x19 x20 x21 =
  if (decide (x21 < x20)) = true then
    (rdI x19 x21).bind fun y2 =>
    (impl_ageIn.f y2 x1).bind fun y3 =>
    if (!y3.2) = true then
      some (0, false)
    else
      (impl_divisor.f x6 y3.1).bind fun y4 =>
      impl_SharedEvery.l0 x1 y4 x19 x20 (IntKind.i64.wrap (x21 + 1))
  else
    some (x6, (decide (x6 > 0))) := (runAt_loop _ _ _ _ _ _).trans (by kernel_rfl)
noncomputable def spec_SharedEvery.g : Gam := [(83, spec_roYear.sp), (86, spec_roAge.sp)]
theorem spec_SharedEvery.gok : GOkI Tryz.prog I spec_SharedEvery.g := ((GOkI.nil _ _).cons spec_roAge.ok).cons spec_roYear.ok
noncomputable def spec_SharedEvery.i : FI := ⟨Tryz.f16, body Tryz.f16, (.seq .nil (.seq (.seq .nil (.cond (.seq .nil .nil) .nil)) (.seq .nil (.seq (.seq .nil (.blk (.loop [1, 6, 16, 17, 18] [] (.seq .nil (.seq (.cond .nil .nil) (.seq (.blk (.seq .nil (.seq .nil (.seq (.seq .nil (.cond (.seq .nil .nil) .nil)) (.seq .nil (.seq (.blk (.loop [1, 10, 11, 16, 17, 18] [] (.seq (.seq .nil (.cond .nil .nil)) (.blk .nil)))) .nil)))))) .nil)))))) (.seq (.seq .nil (.cond (.seq .nil .nil) .nil)) (.seq .nil .nil)))))), [], [], [.res (.tmp 4) (.v (.int .i64)), .res (.tmp 5) (.v .bool)]⟩
noncomputable def spec_SharedEvery.sp : CSpec := mkSpec spec_SharedEvery.g T spec_SharedEvery.i
theorem spec_SharedEvery.ok : SpecOk Tryz.prog I 16 spec_SharedEvery.sp := mkSpec_ok hmix hI spec_SharedEvery.gok tok spec_SharedEvery.i Tryz.func16 (by kernel_rfl) (by kernel_rfl) (by kernel_rfl) (by kernel_rfl)
noncomputable def spec_SharedEvery.f (x0 : List Int) (x1 : Int) : Option (Int × Bool) := run spec_SharedEvery.g T spec_SharedEvery.i [.v (.slice (.int .i64)) x0, .v (.int .i64) x1]
noncomputable def spec_SharedEvery.l0 (x1 : Int) (x6 : Int) (x16 : List Int) (x17 : Int) (x18 : Int) : Option (Int × Bool) := runAt spec_SharedEvery.g T spec_SharedEvery.i [true, true, true, false, true, false] [(1, .val (.int .i64) x1), (6, .val (.int .i64) x6), (16, .val (.slice (.int .i64)) x16), (17, .val (.int .i64) x17), (18, .val (.int .i64) x18)] []
noncomputable def spec_SharedEvery.l1 (x1 : Int) (x10 : Int) (x11 : Int) (x16 : List Int) (x17 : Int) (x18 : Int) : Option (Int × Bool) := runAt spec_SharedEvery.g T spec_SharedEvery.i [true, true, true, false, true, false, false, true, true, false, false, true, true, true, true, false, false] [(1, .val (.int .i64) x1), (10, .val (.int .i64) x10), (11, .val (.int .i64) x11), (16, .val (.slice (.int .i64)) x16), (17, .val (.int .i64) x17), (18, .val (.int .i64) x18)] []
theorem spec_SharedEvery.f.eq (x0 : List Int) (x1 : Int) : spec_SharedEvery.f x0 x1 =
  (spec_roYear.f x0 x1).bind fun y1 =>
  if (!y1) = true then
    some (0, false)
  else
    spec_SharedEvery.l0 x1 0 x0 (x0.length : Int) 0 := by kernel_rfl
theorem spec_SharedEvery.l0.eq (x1 : Int) (x6 : Int) (x16 : List Int) (x17 : Int) (x18 : Int) : spec_SharedEvery.l0 x1 x6 x16 x17 x18 =
  if (decide (x18 < x17)) = true then
    (rdI x16 x18).bind fun y2 =>
    (spec_roAge.f y2 x1).bind fun y3 =>
    if (decide (y3 < 0)) = true then
      some (0, false)
    else
      spec_SharedEvery.l1 x1 y3 x6 x16 x17 x18
  else
    if (x6 == 0) = true then
      some (0, false)
    else
      some (x6, true) := (runAt_loop _ _ _ _ _ _).trans (by kernel_rfl)
theorem spec_SharedEvery.l1.eq (x1 : Int) (x10 : Int) (x11 : Int) (x16 : List Int) (x17 : Int) (x18 : Int) : spec_SharedEvery.l1 x1 x10 x11 x16 x17 x18 =
  if (decide (x11 > 0)) = true then
    if x11 = 0 then
      none
    else
      spec_SharedEvery.l1 x1 x11 (x10.tmod x11) x16 x17 x18
  else
    spec_SharedEvery.l0 x1 x10 x16 x17 (IntKind.i64.wrap (x18 + 1)) := (runAt_loop _ _ _ _ _ _).trans (by kernel_rfl)
noncomputable def spec_DrawYearOfSum.g : Gam := [(87, spec_l1Cur_one.sp), (81, spec_l1Cur_born.sp), (88, spec_l1Cur_among.sp), (89, spec_l1Cur_pick.sp)]
theorem spec_DrawYearOfSum.gok : GOkI Tryz.prog I spec_DrawYearOfSum.g := ((((GOkI.nil _ _).cons spec_l1Cur_pick.ok).cons spec_l1Cur_among.ok).cons spec_l1Cur_born.ok).cons spec_l1Cur_one.ok
noncomputable def spec_DrawYearOfSum.i : FI := ⟨Tryz.f17, body Tryz.f17, (.seq .nil (.seq .nil (.seq (.seq .nil (.cond (.seq .nil .nil) .nil)) (.seq .nil .nil)))), [], [], [.res (.tmp 2) (.own 3 (.int .i64)), .res (.tmp 3) (.v (.int .i64))]⟩
noncomputable def spec_DrawYearOfSum.sp : CSpec := mkSpec spec_DrawYearOfSum.g T spec_DrawYearOfSum.i
theorem spec_DrawYearOfSum.ok : SpecOk Tryz.prog I 17 spec_DrawYearOfSum.sp := mkSpec_ok hmix hI spec_DrawYearOfSum.gok tok spec_DrawYearOfSum.i Tryz.func17 (by kernel_rfl) (by kernel_rfl) (by kernel_rfl) (by kernel_rfl)
noncomputable def spec_DrawYearOfSum.f (x0 : List Int) : Option ((List Int) × Int) := run spec_DrawYearOfSum.g T spec_DrawYearOfSum.i [.v (.slice (.int .u8)) x0]
theorem spec_DrawYearOfSum.f.eq (x0 : List Int) : spec_DrawYearOfSum.f x0 =
  (spec_l1Cur_one.f x0 0 0 8).bind fun y1 =>
  if y1.1 = true then
    (spec_l1Cur_born.f y1.2.1 y1.2.2.1 y1.2.2.2).bind fun y2 =>
    (spec_l1Cur_among.f y2.2.1 y2.2.2.1 y2.2.2.2 [(-1), 0, 1, 1000, 1001]).bind fun y3 =>
    some (y2.1, y3.1)
  else
    (spec_l1Cur_born.f y1.2.1 y1.2.2.1 y1.2.2.2).bind fun y4 =>
    (spec_l1Cur_pick.f y4.2.1 y4.2.2.1 y4.2.2.2 250).bind fun y5 =>
    some (y4.1, (IntKind.i64.wrap (1 + y5.1))) := by kernel_rfl
noncomputable def impl_YearOfSum.g : Gam := [(34, impl_AreBirths.sp), (76, impl_sumOfAges.sp), (90, impl_between.sp)]
theorem impl_YearOfSum.gok : GOkI Tryz.prog I impl_YearOfSum.g := (((GOkI.nil _ _).cons impl_between.ok).cons impl_sumOfAges.ok).cons impl_AreBirths.ok
noncomputable def impl_YearOfSum.i : FI := ⟨Tryz.f18, body Tryz.f18, (.seq .nil (.seq (.cut [0, 1, 14] [] .nil (.cond (.seq .nil .nil) .nil)) (.seq (.seq .nil (.blk (.loop [0, 1, 15] [] (.seq .nil (.seq (.cond .nil .nil) (.seq (.blk (.seq .nil (.seq .nil (.cond (.seq .nil .nil) .nil)))) .nil)))))) (.seq .nil .nil)))), [], [], [.res (.tmp 4) (.v (.int .i64)), .res (.tmp 5) (.v .bool)]⟩
noncomputable def impl_YearOfSum.sp : CSpec := mkSpec impl_YearOfSum.g T impl_YearOfSum.i
theorem impl_YearOfSum.ok : SpecOk Tryz.prog I 18 impl_YearOfSum.sp := mkSpec_ok hmix hI impl_YearOfSum.gok tok impl_YearOfSum.i Tryz.func18 (by kernel_rfl) (by kernel_rfl) (by kernel_rfl) (by kernel_rfl)
noncomputable def impl_YearOfSum.f (x0 : List Int) (x1 : Int) : Option (Int × Bool) := run impl_YearOfSum.g T impl_YearOfSum.i [.v (.slice (.int .i64)) x0, .v (.int .i64) x1]
noncomputable def impl_YearOfSum.j0 (x0 : List Int) (x1 : Int) (x14 : Bool) : Option (Int × Bool) := runJ impl_YearOfSum.g T impl_YearOfSum.i [true, false, true] [(0, .val (.slice (.int .i64)) x0), (1, .val (.int .i64) x1), (14, .val .bool x14)] []
noncomputable def impl_YearOfSum.l0 (x0 : List Int) (x1 : Int) (x15 : Int) : Option (Int × Bool) := runAt impl_YearOfSum.g T impl_YearOfSum.i [true, true, false, true, false] [(0, .val (.slice (.int .i64)) x0), (1, .val (.int .i64) x1), (15, .val (.int .i64) x15)] []
theorem impl_YearOfSum.f.eq (x0 : List Int) (x1 : Int) : impl_YearOfSum.f x0 x1 =
  (impl_AreBirths.f x0).bind fun y1 =>
  if (!y1) = true then
    impl_YearOfSum.j0 x0 x1 true
  else
    (impl_between.f x1 1 1000).bind fun y5 =>
    impl_YearOfSum.j0 x0 x1 (if false = true then true else !y5) := by kernel_rfl
theorem impl_YearOfSum.j0.eq (x0 : List Int) (x1 : Int) (x14 : Bool) : impl_YearOfSum.j0 x0 x1 x14 =
  if x14 = true then
    some (0, false)
  else
    impl_YearOfSum.l0 x0 x1 0 := (runJ_eq _ _ _ _ _ _).trans (by kernel_rfl)
theorem impl_YearOfSum.l0.eq (x0 : List Int) (x1 : Int) (x15 : Int) : impl_YearOfSum.l0 x0 x1 x15 =
  if (decide (x15 < 3001)) = true then
    (impl_sumOfAges.f x0 x15).bind fun y2 =>
    if (decide (y2 ≥ x1)) = true then
      some (x15, true)
    else
      impl_YearOfSum.l0 x0 x1 (IntKind.i64.wrap (x15 + 1))
  else
    some (0, false) := (runAt_loop _ _ _ _ _ _).trans (by kernel_rfl)
noncomputable def spec_YearOfSum.g : Gam := [(91, spec_roBorn.sp), (79, spec_roSum.sp), (92, spec_l1In.sp)]
theorem spec_YearOfSum.gok : GOkI Tryz.prog I spec_YearOfSum.g := (((GOkI.nil _ _).cons spec_l1In.ok).cons spec_roSum.ok).cons spec_roBorn.ok
noncomputable def spec_YearOfSum.i : FI := ⟨Tryz.f19, body Tryz.f19, (.seq .nil (.seq (.cut [0, 1, 14] [] .nil (.cond (.seq .nil .nil) .nil)) (.seq (.seq .nil (.blk (.loop [0, 1, 6] [] (.seq (.seq .nil (.cond .nil .nil)) (.seq (.blk (.seq .nil (.cond (.seq .nil .nil) .nil))) .nil))))) (.seq .nil .nil)))), [], [], [.res (.tmp 4) (.v (.int .i64)), .res (.tmp 5) (.v .bool)]⟩
noncomputable def spec_YearOfSum.sp : CSpec := mkSpec spec_YearOfSum.g T spec_YearOfSum.i
theorem spec_YearOfSum.ok : SpecOk Tryz.prog I 19 spec_YearOfSum.sp := mkSpec_ok hmix hI spec_YearOfSum.gok tok spec_YearOfSum.i Tryz.func19 (by kernel_rfl) (by kernel_rfl) (by kernel_rfl) (by kernel_rfl)
noncomputable def spec_YearOfSum.f (x0 : List Int) (x1 : Int) : Option (Int × Bool) := run spec_YearOfSum.g T spec_YearOfSum.i [.v (.slice (.int .i64)) x0, .v (.int .i64) x1]
noncomputable def spec_YearOfSum.j0 (x0 : List Int) (x1 : Int) (x14 : Bool) : Option (Int × Bool) := runJ spec_YearOfSum.g T spec_YearOfSum.i [true, false, true] [(0, .val (.slice (.int .i64)) x0), (1, .val (.int .i64) x1), (14, .val .bool x14)] []
noncomputable def spec_YearOfSum.l0 (x0 : List Int) (x1 : Int) (x6 : Int) : Option (Int × Bool) := runAt spec_YearOfSum.g T spec_YearOfSum.i [true, true, false, true, false] [(0, .val (.slice (.int .i64)) x0), (1, .val (.int .i64) x1), (6, .val (.int .i64) x6)] []
theorem spec_YearOfSum.f.eq (x0 : List Int) (x1 : Int) : spec_YearOfSum.f x0 x1 =
  (spec_roBorn.f x0).bind fun y1 =>
  if (!y1) = true then
    spec_YearOfSum.j0 x0 x1 true
  else
    (spec_l1In.f x1 1 1000).bind fun y5 =>
    spec_YearOfSum.j0 x0 x1 (if false = true then true else !y5) := by kernel_rfl
theorem spec_YearOfSum.j0.eq (x0 : List Int) (x1 : Int) (x14 : Bool) : spec_YearOfSum.j0 x0 x1 x14 =
  if x14 = true then
    some (0, false)
  else
    spec_YearOfSum.l0 x0 x1 0 := (runJ_eq _ _ _ _ _ _).trans (by kernel_rfl)
theorem spec_YearOfSum.l0.eq (x0 : List Int) (x1 : Int) (x6 : Int) : spec_YearOfSum.l0 x0 x1 x6 =
  if (decide (x6 ≤ 3000)) = true then
    (spec_roSum.f x0 x6).bind fun y2 =>
    if (decide (y2 ≥ x1)) = true then
      some (x6, true)
    else
      spec_YearOfSum.l0 x0 x1 (IntKind.i64.wrap (x6 + 1))
  else
    some (0, false) := (runAt_loop _ _ _ _ _ _).trans (by kernel_rfl)
noncomputable def spec_DrawBestEvery.g : Gam := [(81, spec_l1Cur_born.sp), (82, spec_l1Cur_year.sp), (88, spec_l1Cur_among.sp)]
theorem spec_DrawBestEvery.gok : GOkI Tryz.prog I spec_DrawBestEvery.g := (((GOkI.nil _ _).cons spec_l1Cur_among.ok).cons spec_l1Cur_year.ok).cons spec_l1Cur_born.ok
noncomputable def spec_DrawBestEvery.i : FI := ⟨Tryz.f20, body Tryz.f20, (.seq .nil (.seq .nil (.seq .nil .nil))), [], [], [.res (.tmp 2) (.own 3 (.int .i64)), .res (.tmp 3) (.v (.int .i64)), .res (.tmp 4) (.v (.int .i64))]⟩
noncomputable def spec_DrawBestEvery.sp : CSpec := mkSpec spec_DrawBestEvery.g T spec_DrawBestEvery.i
theorem spec_DrawBestEvery.ok : SpecOk Tryz.prog I 20 spec_DrawBestEvery.sp := mkSpec_ok hmix hI spec_DrawBestEvery.gok tok spec_DrawBestEvery.i Tryz.func20 (by kernel_rfl) (by kernel_rfl) (by kernel_rfl) (by kernel_rfl)
noncomputable def spec_DrawBestEvery.f (x0 : List Int) : Option ((List Int) × Int × Int) := run spec_DrawBestEvery.g T spec_DrawBestEvery.i [.v (.slice (.int .u8)) x0]
theorem spec_DrawBestEvery.f.eq (x0 : List Int) : spec_DrawBestEvery.f x0 =
  (spec_l1Cur_born.f x0 0 0).bind fun y1 =>
  (spec_l1Cur_year.f y1.2.1 y1.2.2.1 y1.2.2.2).bind fun y2 =>
  (spec_l1Cur_among.f y2.2.1 y2.2.2.1 y2.2.2.2 [2, 5, 10, 10, 25, 100, 101, 1, 0]).bind fun y3 =>
  some (y1.1, y2.1, y3.1) := by kernel_rfl
noncomputable def impl_jubilees.g : Gam := [(84, impl_ageIn.sp), (75, impl_isRound.sp)]
theorem impl_jubilees.gok : GOkI Tryz.prog I impl_jubilees.g := ((GOkI.nil _ _).cons impl_isRound.ok).cons impl_ageIn.ok
noncomputable def impl_jubilees.i : FI := ⟨Tryz.f93, body Tryz.f93, (.seq .nil (.seq .nil (.seq (.seq .nil (.blk (.loop [1, 2, 7, 13, 14, 15] [] (.seq .nil (.seq (.cond .nil .nil) (.seq (.blk (.seq .nil (.seq .nil (.seq .nil (.cond .nil .nil))))) .nil)))))) (.seq .nil .nil)))), [], [], [.res (.tmp 6) (.own 3 (.int .i64))]⟩
noncomputable def impl_jubilees.sp : CSpec := mkSpec impl_jubilees.g T impl_jubilees.i
theorem impl_jubilees.ok : SpecOk Tryz.prog I 93 impl_jubilees.sp := mkSpec_ok hmix hI impl_jubilees.gok tok impl_jubilees.i Tryz.func93 (by kernel_rfl) (by kernel_rfl) (by kernel_rfl) (by kernel_rfl)
noncomputable def impl_jubilees.f (x0 : List Int) (x1 : Int) (x2 : Int) : Option (List Int) := run impl_jubilees.g T impl_jubilees.i [.v (.slice (.int .i64)) x0, .v (.int .i64) x1, .v (.int .i64) x2]
noncomputable def impl_jubilees.l0 (x1 : Int) (x2 : Int) (x7 : List Int) (x13 : List Int) (x14 : Int) (x15 : Int) : Option (List Int) := runAt impl_jubilees.g T impl_jubilees.i [true, true, false, true, false] [(1, .val (.int .i64) x1), (2, .val (.int .i64) x2), (7, .own 3 (.int .i64) x7), (13, .val (.slice (.int .i64)) x13), (14, .val (.int .i64) x14), (15, .val (.int .i64) x15)] []
theorem impl_jubilees.f.eq (x0 : List Int) (x1 : Int) (x2 : Int) : impl_jubilees.f x0 x1 x2 =
  impl_jubilees.l0 x1 x2 [] x0 (x0.length : Int) 0 := by kernel_rfl
theorem impl_jubilees.l0.eq (x1 : Int) (x2 : Int) (x7 : List Int) (x13 : List Int) (x14 : Int) (x15 : Int) : impl_jubilees.l0 x1 x2 x7 x13 x14 x15 =
  if (decide (x15 < x14)) = true then
    (rdI x13 x15).bind fun y2 =>
    (impl_ageIn.f y2 x1).bind fun y3 =>
    if y3.2 = true then
      (impl_isRound.f y3.1 x2).bind fun y4 =>
      if (if true = true then y4 else false) = true then
        (catI (appMax 8) x7 [x15]).bind fun y6 =>
        impl_jubilees.l0 x1 x2 y6 x13 x14 (IntKind.i64.wrap (x15 + 1))
      else
        impl_jubilees.l0 x1 x2 x7 x13 x14 (IntKind.i64.wrap (x15 + 1))
    else
      impl_jubilees.l0 x1 x2 x7 x13 x14 (IntKind.i64.wrap (x15 + 1))
  else
    some x7 := (runAt_loop _ _ _ _ _ _).trans (by kernel_rfl)
noncomputable def impl_BestEvery.g : Gam := [(34, impl_AreBirths.sp), (93, impl_jubilees.sp), (80, impl_isYear.sp), (90, impl_between.sp)]
theorem impl_BestEvery.gok : GOkI Tryz.prog I impl_BestEvery.g := ((((GOkI.nil _ _).cons impl_between.ok).cons impl_isYear.ok).cons impl_jubilees.ok).cons impl_AreBirths.ok
noncomputable def impl_BestEvery.i : FI := ⟨Tryz.f21, body Tryz.f21, (.seq .nil (.seq (.cut [0, 1, 2, 25] [] .nil (.cond (.seq .nil .nil) .nil)) (.seq .nil (.seq (.seq .nil (.blk (.loop [0, 1, 2, 9, 10, 11] [] (.seq (.seq .nil (.cond .nil .nil)) (.seq (.blk (.seq .nil (.seq .nil (.cond .nil .nil)))) .nil))))) (.seq .nil .nil))))), [], [], [.res (.tmp 6) (.v (.int .i64)), .res (.tmp 7) (.v (.int .i64)), .res (.tmp 8) (.v .bool)]⟩
noncomputable def impl_BestEvery.sp : CSpec := mkSpec impl_BestEvery.g T impl_BestEvery.i
theorem impl_BestEvery.ok : SpecOk Tryz.prog I 21 impl_BestEvery.sp := mkSpec_ok hmix hI impl_BestEvery.gok tok impl_BestEvery.i Tryz.func21 (by kernel_rfl) (by kernel_rfl) (by kernel_rfl) (by kernel_rfl)
noncomputable def impl_BestEvery.f (x0 : List Int) (x1 : Int) (x2 : Int) : Option (Int × Int × Bool) := run impl_BestEvery.g T impl_BestEvery.i [.v (.slice (.int .i64)) x0, .v (.int .i64) x1, .v (.int .i64) x2]
noncomputable def impl_BestEvery.j0 (x0 : List Int) (x1 : Int) (x2 : Int) (x25 : Bool) : Option (Int × Int × Bool) := runJ impl_BestEvery.g T impl_BestEvery.i [true, false, true] [(0, .val (.slice (.int .i64)) x0), (1, .val (.int .i64) x1), (2, .val (.int .i64) x2), (25, .val .bool x25)] []
noncomputable def impl_BestEvery.l0 (x0 : List Int) (x1 : Int) (x2 : Int) (x9 : Int) (x10 : Int) (x11 : Int) : Option (Int × Int × Bool) := runAt impl_BestEvery.g T impl_BestEvery.i [true, true, true, false, true, false] [(0, .val (.slice (.int .i64)) x0), (1, .val (.int .i64) x1), (2, .val (.int .i64) x2), (9, .val (.int .i64) x9), (10, .val (.int .i64) x10), (11, .val (.int .i64) x11)] []
theorem impl_BestEvery.f.eq (x0 : List Int) (x1 : Int) (x2 : Int) : impl_BestEvery.f x0 x1 x2 =
  (impl_AreBirths.f x0).bind fun y1 =>
  if (!y1) = true then
    impl_BestEvery.j0 x0 x1 x2 true
  else
    (impl_isYear.f x1).bind fun y7 =>
    if (if false = true then true else !y7) = true then
      impl_BestEvery.j0 x0 x1 x2 true
    else
      (impl_between.f x2 2 100).bind fun y9 =>
      impl_BestEvery.j0 x0 x1 x2 (if false = true then true else !y9) := by kernel_rfl
theorem impl_BestEvery.j0.eq (x0 : List Int) (x1 : Int) (x2 : Int) (x25 : Bool) : impl_BestEvery.j0 x0 x1 x2 x25 =
  if x25 = true then
    some (0, 0, false)
  else
    impl_BestEvery.l0 x0 x1 x2 0 (-1) 2 := (runJ_eq _ _ _ _ _ _).trans (by kernel_rfl)
theorem impl_BestEvery.l0.eq (x0 : List Int) (x1 : Int) (x2 : Int) (x9 : Int) (x10 : Int) (x11 : Int) : impl_BestEvery.l0 x0 x1 x2 x9 x10 x11 =
  if (decide (x11 ≤ x2)) = true then
    (impl_jubilees.f x0 x1 x11).bind fun y2 =>
    if (decide ((y2.length : Int) ≥ x10)) = true then
      impl_BestEvery.l0 x0 x1 x2 x11 (y2.length : Int) (IntKind.i64.wrap (x11 + 1))
    else
      impl_BestEvery.l0 x0 x1 x2 x9 x10 (IntKind.i64.wrap (x11 + 1))
  else
    some (x9, x10, true) := (runAt_loop _ _ _ _ _ _).trans (by kernel_rfl)
noncomputable def spec_roIn.g : Gam := [(86, spec_roAge.sp), (78, spec_roRound.sp)]
theorem spec_roIn.gok : GOkI Tryz.prog I spec_roIn.g := ((GOkI.nil _ _).cons spec_roRound.ok).cons spec_roAge.ok
noncomputable def spec_roIn.i : FI := ⟨Tryz.f94, body Tryz.f94, (.seq .nil (.seq .nil (.seq (.seq .nil (.blk (.loop [1, 2, 7, 10, 11, 12] [] (.seq .nil (.seq (.cond .nil .nil) (.seq (.blk (.seq .nil (.seq .nil (.cond .nil .nil)))) .nil)))))) (.seq .nil .nil)))), [], [], [.res (.tmp 6) (.own 3 (.int .i64))]⟩
noncomputable def spec_roIn.sp : CSpec := mkSpec spec_roIn.g T spec_roIn.i
theorem spec_roIn.ok : SpecOk Tryz.prog I 94 spec_roIn.sp := mkSpec_ok hmix hI spec_roIn.gok tok spec_roIn.i Tryz.func94 (by kernel_rfl) (by kernel_rfl) (by kernel_rfl) (by kernel_rfl)
noncomputable def spec_roIn.f (x0 : List Int) (x1 : Int) (x2 : Int) : Option (List Int) := run spec_roIn.g T spec_roIn.i [.v (.slice (.int .i64)) x0, .v (.int .i64) x1, .v (.int .i64) x2]
noncomputable def spec_roIn.l0 (x1 : Int) (x2 : Int) (x7 : List Int) (x10 : List Int) (x11 : Int) (x12 : Int) : Option (List Int) := runAt spec_roIn.g T spec_roIn.i [true, true, false, true, false] [(1, .val (.int .i64) x1), (2, .val (.int .i64) x2), (7, .own 3 (.int .i64) x7), (10, .val (.slice (.int .i64)) x10), (11, .val (.int .i64) x11), (12, .val (.int .i64) x12)] []
theorem spec_roIn.f.eq (x0 : List Int) (x1 : Int) (x2 : Int) : spec_roIn.f x0 x1 x2 =
  spec_roIn.l0 x1 x2 [] x0 (x0.length : Int) 0 := by kernel_rfl
theorem spec_roIn.l0.eq (x1 : Int) (x2 : Int) (x7 : List Int) (x10 : List Int) (x11 : Int) (x12 : Int) : spec_roIn.l0 x1 x2 x7 x10 x11 x12 =
  if (decide (x12 < x11)) = true then
    (rdI x10 x12).bind fun y2 =>
    (spec_roAge.f y2 x1).bind fun y3 =>
    (spec_roRound.f y3 x2).bind fun y4 =>
    if y4 = true then
      (catI (appMax 8) x7 [x12]).bind fun y5 =>
      spec_roIn.l0 x1 x2 y5 x10 x11 (IntKind.i64.wrap (x12 + 1))
    else
      spec_roIn.l0 x1 x2 x7 x10 x11 (IntKind.i64.wrap (x12 + 1))
  else
    some x7 := (runAt_loop _ _ _ _ _ _).trans (by kernel_rfl)
noncomputable def spec_BestEvery.g : Gam := [(83, spec_roYear.sp), (94, spec_roIn.sp), (92, spec_l1In.sp)]
theorem spec_BestEvery.gok : GOkI Tryz.prog I spec_BestEvery.g := (((GOkI.nil _ _).cons spec_l1In.ok).cons spec_roIn.ok).cons spec_roYear.ok
noncomputable def spec_BestEvery.i : FI := ⟨Tryz.f22, body Tryz.f22, (.seq .nil (.seq (.cut [0, 1, 2, 21] [] .nil (.cond (.seq .nil .nil) .nil)) (.seq .nil (.seq (.seq .nil (.blk (.loop [0, 1, 2, 9, 10, 11] [] (.seq (.seq .nil (.cond .nil .nil)) (.seq (.blk (.seq .nil (.seq .nil (.cond (.seq .nil .nil) .nil)))) .nil))))) (.seq .nil .nil))))), [], [], [.res (.tmp 6) (.v (.int .i64)), .res (.tmp 7) (.v (.int .i64)), .res (.tmp 8) (.v .bool)]⟩
noncomputable def spec_BestEvery.sp : CSpec := mkSpec spec_BestEvery.g T spec_BestEvery.i
theorem spec_BestEvery.ok : SpecOk Tryz.prog I 22 spec_BestEvery.sp := mkSpec_ok hmix hI spec_BestEvery.gok tok spec_BestEvery.i Tryz.func22 (by kernel_rfl) (by kernel_rfl) (by kernel_rfl) (by kernel_rfl)
noncomputable def spec_BestEvery.f (x0 : List Int) (x1 : Int) (x2 : Int) : Option (Int × Int × Bool) := run spec_BestEvery.g T spec_BestEvery.i [.v (.slice (.int .i64)) x0, .v (.int .i64) x1, .v (.int .i64) x2]
noncomputable def spec_BestEvery.j0 (x0 : List Int) (x1 : Int) (x2 : Int) (x21 : Bool) : Option (Int × Int × Bool) := runJ spec_BestEvery.g T spec_BestEvery.i [true, false, true] [(0, .val (.slice (.int .i64)) x0), (1, .val (.int .i64) x1), (2, .val (.int .i64) x2), (21, .val .bool x21)] []
noncomputable def spec_BestEvery.l0 (x0 : List Int) (x1 : Int) (x2 : Int) (x9 : Int) (x10 : Int) (x11 : Int) : Option (Int × Int × Bool) := runAt spec_BestEvery.g T spec_BestEvery.i [true, true, true, false, true, false] [(0, .val (.slice (.int .i64)) x0), (1, .val (.int .i64) x1), (2, .val (.int .i64) x2), (9, .val (.int .i64) x9), (10, .val (.int .i64) x10), (11, .val (.int .i64) x11)] []
theorem spec_BestEvery.f.eq (x0 : List Int) (x1 : Int) (x2 : Int) : spec_BestEvery.f x0 x1 x2 =
  (spec_roYear.f x0 x1).bind fun y1 =>
  if (!y1) = true then
    spec_BestEvery.j0 x0 x1 x2 true
  else
    (spec_l1In.f x2 2 100).bind fun y7 =>
    spec_BestEvery.j0 x0 x1 x2 (if false = true then true else !y7) := by kernel_rfl
theorem spec_BestEvery.j0.eq (x0 : List Int) (x1 : Int) (x2 : Int) (x21 : Bool) : spec_BestEvery.j0 x0 x1 x2 x21 =
  if x21 = true then
    some (0, 0, false)
  else
    spec_BestEvery.l0 x0 x1 x2 0 (-1) 2 := (runJ_eq _ _ _ _ _ _).trans (by kernel_rfl)
theorem spec_BestEvery.l0.eq (x0 : List Int) (x1 : Int) (x2 : Int) (x9 : Int) (x10 : Int) (x11 : Int) : spec_BestEvery.l0 x0 x1 x2 x9 x10 x11 =
  if (decide (x11 ≤ x2)) = true then
    (spec_roIn.f x0 x1 x11).bind fun y2 =>
    if (decide ((y2.length : Int) ≥ x10)) = true then
      spec_BestEvery.l0 x0 x1 x2 x11 (y2.length : Int) (IntKind.i64.wrap (x11 + 1))
    else
      spec_BestEvery.l0 x0 x1 x2 x9 x10 (IntKind.i64.wrap (x11 + 1))
  else
    some (x9, x10, true) := (runAt_loop _ _ _ _ _ _).trans (by kernel_rfl)
noncomputable def spec_DrawDoubleYear.g : Gam := [(81, spec_l1Cur_born.sp), (89, spec_l1Cur_pick.sp)]
theorem spec_DrawDoubleYear.gok : GOkI Tryz.prog I spec_DrawDoubleYear.g := ((GOkI.nil _ _).cons spec_l1Cur_pick.ok).cons spec_l1Cur_born.ok
noncomputable def spec_DrawDoubleYear.i : FI := ⟨Tryz.f23, body Tryz.f23, (.seq .nil (.seq .nil (.seq .nil (.seq .nil .nil)))), [], [], [.res (.tmp 2) (.own 3 (.int .i64)), .res (.tmp 3) (.v (.int .i64)), .res (.tmp 4) (.v (.int .i64))]⟩
noncomputable def spec_DrawDoubleYear.sp : CSpec := mkSpec spec_DrawDoubleYear.g T spec_DrawDoubleYear.i
theorem spec_DrawDoubleYear.ok : SpecOk Tryz.prog I 23 spec_DrawDoubleYear.sp := mkSpec_ok hmix hI spec_DrawDoubleYear.gok tok spec_DrawDoubleYear.i Tryz.func23 (by kernel_rfl) (by kernel_rfl) (by kernel_rfl) (by kernel_rfl)
noncomputable def spec_DrawDoubleYear.f (x0 : List Int) : Option ((List Int) × Int × Int) := run spec_DrawDoubleYear.g T spec_DrawDoubleYear.i [.v (.slice (.int .u8)) x0]
theorem spec_DrawDoubleYear.f.eq (x0 : List Int) : spec_DrawDoubleYear.f x0 =
  (spec_l1Cur_born.f x0 0 0).bind fun y1 =>
  (spec_l1Cur_pick.f y1.2.1 y1.2.2.1 y1.2.2.2 (IntKind.i64.wrap ((y1.1.length : Int) + 1))).bind fun y4 =>
  (spec_l1Cur_pick.f y4.2.1 y4.2.2.1 y4.2.2.2 9).bind fun y5 =>
  (spec_l1Cur_pick.f y5.2.1 y5.2.2.1 y5.2.2.2 (IntKind.i64.wrap ((y1.1.length : Int) + 1))).bind fun y10 =>
  some (y1.1, (IntKind.i64.wrap (y4.1 - (IntKind.i64.wrap (y5.1.tdiv 8)))), y10.1) := by kernel_rfl
noncomputable def impl_is.g : Gam := [(90, impl_between.sp)]
theorem impl_is.gok : GOkI Tryz.prog I impl_is.g := (GOkI.nil _ _).cons impl_between.ok
noncomputable def impl_is.i : FI := ⟨Tryz.f95, body Tryz.f95, (.seq .nil (.seq .nil .nil)), [], [], [.res (.tmp 4) (.v .bool)]⟩
noncomputable def impl_is.sp : CSpec := mkSpec impl_is.g T impl_is.i
theorem impl_is.ok : SpecOk Tryz.prog I 95 impl_is.sp := mkSpec_ok hmix hI impl_is.gok tok impl_is.i Tryz.func95 (by kernel_rfl) (by kernel_rfl) (by kernel_rfl) (by kernel_rfl)
noncomputable def impl_is.f (x0 : List Int) (x1 : Int) : Option (Bool) := run impl_is.g T impl_is.i [.v (.slice (.int .i64)) x0, .v (.int .i64) x1]
theorem impl_is.f.eq (x0 : List Int) (x1 : Int) : impl_is.f x0 x1 =
  (impl_between.f x1 0 (IntKind.i64.wrap ((x0.length : Int) - 1))).bind fun y3 =>
  some y3 := by kernel_rfl
noncomputable def impl_DoubleYear.g : Gam := [(34, impl_AreBirths.sp), (84, impl_ageIn.sp), (80, impl_isYear.sp), (95, impl_is.sp)]
theorem impl_DoubleYear.gok : GOkI Tryz.prog I impl_DoubleYear.g := ((((GOkI.nil _ _).cons impl_is.ok).cons impl_isYear.ok).cons impl_ageIn.ok).cons impl_AreBirths.ok
noncomputable def impl_DoubleYear.i : FI := ⟨Tryz.f24, body Tryz.f24, (.seq .nil (.seq (.cut [0, 1, 2, 32] [] .nil (.cond (.seq .nil .nil) .nil)) (.seq .nil (.seq .nil (.seq .nil (.seq (.seq .nil (.cond (.seq .nil .nil) .nil)) (.seq .nil .nil))))))), [], [], [.res (.tmp 6) (.v (.int .i64)), .res (.tmp 7) (.v .bool)]⟩
noncomputable def impl_DoubleYear.sp : CSpec := mkSpec impl_DoubleYear.g T impl_DoubleYear.i
theorem impl_DoubleYear.ok : SpecOk Tryz.prog I 24 impl_DoubleYear.sp := mkSpec_ok hmix hI impl_DoubleYear.gok tok impl_DoubleYear.i Tryz.func24 (by kernel_rfl) (by kernel_rfl) (by kernel_rfl) (by kernel_rfl)
noncomputable def impl_DoubleYear.f (x0 : List Int) (x1 : Int) (x2 : Int) : Option (Int × Bool) := run impl_DoubleYear.g T impl_DoubleYear.i [.v (.slice (.int .i64)) x0, .v (.int .i64) x1, .v (.int .i64) x2]
noncomputable def impl_DoubleYear.j0 (x0 : List Int) (x1 : Int) (x2 : Int) (x32 : Bool) : Option (Int × Bool) := runJ impl_DoubleYear.g T impl_DoubleYear.i [true, false, true] [(0, .val (.slice (.int .i64)) x0), (1, .val (.int .i64) x1), (2, .val (.int .i64) x2), (32, .val .bool x32)] []
theorem impl_DoubleYear.f.eq (x0 : List Int) (x1 : Int) (x2 : Int) : impl_DoubleYear.f x0 x1 x2 =
  (impl_AreBirths.f x0).bind fun y1 =>
  if (!y1) = true then
    impl_DoubleYear.j0 x0 x1 x2 true
  else
    (impl_is.f x0 x1).bind fun y14 =>
    if (if false = true then true else !y14) = true then
      impl_DoubleYear.j0 x0 x1 x2 true
    else
      (impl_is.f x0 x2).bind fun y16 =>
      if (if false = true then true else !y16) = true then
        impl_DoubleYear.j0 x0 x1 x2 true
      else
        impl_DoubleYear.j0 x0 x1 x2 (if false = true then true else x1 == x2) := by kernel_rfl
theorem impl_DoubleYear.j0.eq (x0 : List Int) (x1 : Int) (x2 : Int) (x32 : Bool) : impl_DoubleYear.j0 x0 x1 x2 x32 =
  if x32 = true then
    some (0, false)
  else
    (rdI x0 x2).bind fun y1 =>
    (rdI x0 x1).bind fun y3 =>
    let y4 := IntKind.i64.wrap ((IntKind.i64.wrap (2 * y1)) - y3)
    (rdI x0 x1).bind fun y5 =>
    (impl_ageIn.f y5 y4).bind fun y6 =>
    (rdI x0 x2).bind fun y7 =>
    (impl_ageIn.f y7 y4).bind fun y8 =>
    (impl_isYear.f y4).bind fun y9 =>
    if (!y9) = true then
      some (0, false)
    else
      if (if false = true then true else !y6.2) = true then
        some (0, false)
      else
        if (if false = true then true else !y8.2) = true then
          some (0, false)
        else
          if (if false = true then true else (y8.1 == 0)) = true then
            some (0, false)
          else
            some (y4, true) := (runJ_eq _ _ _ _ _ _).trans (by kernel_rfl)
noncomputable def spec_DoubleYear.g : Gam := [(91, spec_roBorn.sp), (92, spec_l1In.sp)]
theorem spec_DoubleYear.gok : GOkI Tryz.prog I spec_DoubleYear.g := ((GOkI.nil _ _).cons spec_l1In.ok).cons spec_roBorn.ok
noncomputable def spec_DoubleYear.i : FI := ⟨Tryz.f25, body Tryz.f25, (.seq .nil (.seq (.cut [0, 1, 2, 32] [] .nil (.cond (.seq .nil .nil) .nil)) (.seq .nil (.seq (.seq .nil (.cond (.seq .nil .nil) .nil)) (.seq .nil .nil))))), [], [], [.res (.tmp 6) (.v (.int .i64)), .res (.tmp 7) (.v .bool)]⟩
noncomputable def spec_DoubleYear.sp : CSpec := mkSpec spec_DoubleYear.g T spec_DoubleYear.i
theorem spec_DoubleYear.ok : SpecOk Tryz.prog I 25 spec_DoubleYear.sp := mkSpec_ok hmix hI spec_DoubleYear.gok tok spec_DoubleYear.i Tryz.func25 (by kernel_rfl) (by kernel_rfl) (by kernel_rfl) (by kernel_rfl)
noncomputable def spec_DoubleYear.f (x0 : List Int) (x1 : Int) (x2 : Int) : Option (Int × Bool) := run spec_DoubleYear.g T spec_DoubleYear.i [.v (.slice (.int .i64)) x0, .v (.int .i64) x1, .v (.int .i64) x2]
noncomputable def spec_DoubleYear.j0 (x0 : List Int) (x1 : Int) (x2 : Int) (x32 : Bool) : Option (Int × Bool) := runJ spec_DoubleYear.g T spec_DoubleYear.i [true, false, true] [(0, .val (.slice (.int .i64)) x0), (1, .val (.int .i64) x1), (2, .val (.int .i64) x2), (32, .val .bool x32)] []
theorem spec_DoubleYear.f.eq (x0 : List Int) (x1 : Int) (x2 : Int) : spec_DoubleYear.f x0 x1 x2 =
  (spec_roBorn.f x0).bind fun y1 =>
  if (!y1) = true then
    spec_DoubleYear.j0 x0 x1 x2 true
  else
    (spec_l1In.f x1 0 (IntKind.i64.wrap ((x0.length : Int) - 1))).bind fun y16 =>
    if (if false = true then true else !y16) = true then
      spec_DoubleYear.j0 x0 x1 x2 true
    else
      (spec_l1In.f x2 0 (IntKind.i64.wrap ((x0.length : Int) - 1))).bind fun y20 =>
      if (if false = true then true else !y20) = true then
        spec_DoubleYear.j0 x0 x1 x2 true
      else
        spec_DoubleYear.j0 x0 x1 x2 (if false = true then true else x1 == x2) := by kernel_rfl
theorem spec_DoubleYear.j0.eq (x0 : List Int) (x1 : Int) (x2 : Int) (x32 : Bool) : spec_DoubleYear.j0 x0 x1 x2 x32 =
  if x32 = true then
    some (0, false)
  else
    (rdI x0 x2).bind fun y1 =>
    (rdI x0 x1).bind fun y2 =>
    let y3 := IntKind.i64.wrap (y1 - y2)
    if (decide (y3 < 1)) = true then
      some (0, false)
    else
      if (if false = true then true else (decide ((IntKind.i64.wrap (2 * y3)) > 120))) = true then
        some (0, false)
      else
        (rdI x0 x2).bind fun y8 =>
        if (if false = true then true else (decide ((IntKind.i64.wrap (y8 + y3)) > 3000))) = true then
          some (0, false)
        else
          (rdI x0 x2).bind fun y12 =>
          some ((IntKind.i64.wrap (y12 + y3)), true) := (runJ_eq _ _ _ _ _ _).trans (by kernel_rfl)
noncomputable def spec_DrawJoinBorn.g : Gam := [(81, spec_l1Cur_born.sp)]
theorem spec_DrawJoinBorn.gok : GOkI Tryz.prog I spec_DrawJoinBorn.g := (GOkI.nil _ _).cons spec_l1Cur_born.ok
noncomputable def spec_DrawJoinBorn.i : FI := ⟨Tryz.f26, body Tryz.f26, (.seq .nil (.seq .nil (.seq .nil .nil))), [], [], [.res (.tmp 2) (.own 3 (.int .i64)), .res (.tmp 3) (.own 3 (.int .i64))]⟩
noncomputable def spec_DrawJoinBorn.sp : CSpec := mkSpec spec_DrawJoinBorn.g T spec_DrawJoinBorn.i
theorem spec_DrawJoinBorn.ok : SpecOk Tryz.prog I 26 spec_DrawJoinBorn.sp := mkSpec_ok hmix hI spec_DrawJoinBorn.gok tok spec_DrawJoinBorn.i Tryz.func26 (by kernel_rfl) (by kernel_rfl) (by kernel_rfl) (by kernel_rfl)
noncomputable def spec_DrawJoinBorn.f (x0 : List Int) : Option ((List Int) × (List Int)) := run spec_DrawJoinBorn.g T spec_DrawJoinBorn.i [.v (.slice (.int .u8)) x0]
theorem spec_DrawJoinBorn.f.eq (x0 : List Int) : spec_DrawJoinBorn.f x0 =
  (spec_l1Cur_born.f x0 0 0).bind fun y1 =>
  (spec_l1Cur_born.f y1.2.1 y1.2.2.1 y1.2.2.2).bind fun y2 =>
  some (y1.1, y2.1) := by kernel_rfl
noncomputable def slices_Concat.g : Gam := [(147, slices_Grow.sp)]
theorem slices_Concat.gok : GOkI Tryz.prog I slices_Concat.g := (GOkI.nil _ _).cons slices_Grow.ok
noncomputable def slices_Concat.i : FI := ⟨Tryz.f97, body Tryz.f97, (.seq .nil (.seq .nil (.seq (.seq .nil (.blk (.loop [0, 3, 9, 10, 11] [] (.seq .nil (.seq (.cond .nil .nil) (.seq (.blk (.seq .nil (.seq .nil (.seq .nil (.cond .nil .nil))))) .nil)))))) (.seq .nil (.seq (.seq .nil (.blk (.loop [6, 25, 26, 27] [] (.seq .nil (.seq (.cond .nil .nil) (.seq (.blk (.seq .nil .nil)) .nil)))))) (.seq .nil .nil)))))), [], [], [.res (.tmp 2) (.own 3 (.int .i64))]⟩
noncomputable def slices_Concat.sp : CSpec := mkSpec slices_Concat.g T slices_Concat.i
theorem slices_Concat.ok : SpecOk Tryz.prog I 97 slices_Concat.sp := mkSpec_ok hmix hI slices_Concat.gok tok slices_Concat.i Tryz.func97 (by kernel_rfl) (by kernel_rfl) (by kernel_rfl) (by kernel_rfl)
noncomputable def slices_Concat.f (x0 : List (List Int)) : Option (List Int) := run slices_Concat.g T slices_Concat.i [.v (.slice (.slice (.int .i64))) x0]
noncomputable def slices_Concat.l0 (x0 : List (List Int)) (x3 : Int) (x9 : List (List Int)) (x10 : Int) (x11 : Int) : Option (List Int) := runAt slices_Concat.g T slices_Concat.i [true, true, false, true, false] [(0, .val (.slice (.slice (.int .i64))) x0), (3, .val (.int .i64) x3), (9, .val (.slice (.slice (.int .i64))) x9), (10, .val (.int .i64) x10), (11, .val (.int .i64) x11)] []
noncomputable def slices_Concat.l1 (x6 : List Int) (x25 : List (List Int)) (x26 : Int) (x27 : Int) : Option (List Int) := runAt slices_Concat.g T slices_Concat.i [true, true, true, true, false, true, false] [(6, .own 3 (.int .i64) x6), (25, .val (.slice (.slice (.int .i64))) x25), (26, .val (.int .i64) x26), (27, .val (.int .i64) x27)] []
theorem slices_Concat.f.eq (x0 : List (List Int)) : slices_Concat.f x0 =
  slices_Concat.l0 x0 0 x0 (x0.length : Int) 0 := by kernel_rfl
theorem slices_Concat.l0.eq (x0 : List (List Int)) (x3 : Int) (x9 : List (List Int)) (x10 : Int) (x11 : Int) : slices_Concat.l0 x0 x3 x9 x10 x11 =
  if (decide (x11 < x10)) = true then
    (rdI x9 x11).bind fun y2 =>
    let y4 := IntKind.i64.wrap (x3 + (y2.length : Int))
    if (decide (y4 < 0)) = true then
      none
    else
      slices_Concat.l0 x0 y4 x9 x10 (IntKind.i64.wrap (x11 + 1))
  else
    (slices_Grow.f [] x3).bind fun y7 =>
    slices_Concat.l1 y7 x0 (x0.length : Int) 0 := (runAt_loop _ _ _ _ _ _).trans (by kernel_rfl)
theorem slices_Concat.l1.eq (x6 : List Int) (x25 : List (List Int)) (x26 : Int) (x27 : Int) : slices_Concat.l1 x6 x25 x26 x27 =
  if (decide (x27 < x26)) = true then
    (rdI x25 x27).bind fun y2 =>
    (catI (appMax 8) x6 y2).bind fun y3 =>
    slices_Concat.l1 y3 x25 x26 (IntKind.i64.wrap (x27 + 1))
  else
    some x6 := (runAt_loop _ _ _ _ _ _).trans (by kernel_rfl)
noncomputable def impl_bornOr.g : Gam := [(34, impl_AreBirths.sp)]
theorem impl_bornOr.gok : GOkI Tryz.prog I impl_bornOr.g := (GOkI.nil _ _).cons impl_AreBirths.ok
noncomputable def impl_bornOr.i : FI := ⟨Tryz.f96, body Tryz.f96, (.seq .nil (.seq (.seq .nil (.cond (.seq .nil .nil) .nil)) (.seq .nil .nil))), [], [], [.res (.tmp 2) (.v (.slice (.int .i64))), .res (.tmp 3) (.v .bool)]⟩
noncomputable def impl_bornOr.sp : CSpec := mkSpec impl_bornOr.g T impl_bornOr.i
theorem impl_bornOr.ok : SpecOk Tryz.prog I 96 impl_bornOr.sp := mkSpec_ok hmix hI impl_bornOr.gok tok impl_bornOr.i Tryz.func96 (by kernel_rfl) (by kernel_rfl) (by kernel_rfl) (by kernel_rfl)
noncomputable def impl_bornOr.f (x0 : List Int) : Option ((List Int) × Bool) := run impl_bornOr.g T impl_bornOr.i [.v (.slice (.int .i64)) x0]
theorem impl_bornOr.f.eq (x0 : List Int) : impl_bornOr.f x0 =
  (impl_AreBirths.f x0).bind fun y1 =>
  if (!y1) = true then
    some ([], false)
  else
    some (x0, true) := by kernel_rfl
noncomputable def impl_JoinBorn.g : Gam := [(34, impl_AreBirths.sp), (97, slices_Concat.sp), (96, impl_bornOr.sp)]
theorem impl_JoinBorn.gok : GOkI Tryz.prog I impl_JoinBorn.g := (((GOkI.nil _ _).cons impl_bornOr.ok).cons slices_Concat.ok).cons impl_AreBirths.ok
noncomputable def impl_JoinBorn.i : FI := ⟨Tryz.f27, body Tryz.f27, (.seq .nil (.seq (.cut [0, 1, 13] [] .nil (.cond (.seq .nil .nil) .nil)) (.seq .nil .nil))), [], [], [.res (.tmp 4) (.v (.slice (.int .i64))), .res (.tmp 5) (.v .bool)]⟩
noncomputable def impl_JoinBorn.sp : CSpec := mkSpec impl_JoinBorn.g T impl_JoinBorn.i
theorem impl_JoinBorn.ok : SpecOk Tryz.prog I 27 impl_JoinBorn.sp := mkSpec_ok hmix hI impl_JoinBorn.gok tok impl_JoinBorn.i Tryz.func27 (by kernel_rfl) (by kernel_rfl) (by kernel_rfl) (by kernel_rfl)
noncomputable def impl_JoinBorn.f (x0 : List Int) (x1 : List Int) : Option ((List Int) × Bool) := run impl_JoinBorn.g T impl_JoinBorn.i [.v (.slice (.int .i64)) x0, .v (.slice (.int .i64)) x1]
noncomputable def impl_JoinBorn.j0 (x0 : List Int) (x1 : List Int) (x13 : Bool) : Option ((List Int) × Bool) := runJ impl_JoinBorn.g T impl_JoinBorn.i [true, false, true] [(0, .val (.slice (.int .i64)) x0), (1, .val (.slice (.int .i64)) x1), (13, .val .bool x13)] []
theorem impl_JoinBorn.f.eq (x0 : List Int) (x1 : List Int) : impl_JoinBorn.f x0 x1 =
  (impl_AreBirths.f x0).bind fun y1 =>
  if (!y1) = true then
    impl_JoinBorn.j0 x0 x1 true
  else
    (impl_AreBirths.f x1).bind fun y3 =>
    impl_JoinBorn.j0 x0 x1 (if false = true then true else !y3) := by kernel_rfl
theorem impl_JoinBorn.j0.eq (x0 : List Int) (x1 : List Int) (x13 : Bool) : impl_JoinBorn.j0 x0 x1 x13 =
  if x13 = true then
    some ([], false)
  else
    (slices_Concat.f [x0, x1]).bind fun y1 =>
    (impl_bornOr.f y1).bind fun y2 =>
    some (y2.1, y2.2) := (runJ_eq _ _ _ _ _ _).trans (by kernel_rfl)
noncomputable def spec_l1Own.g : Gam := []
theorem spec_l1Own.gok : GOkI Tryz.prog I spec_l1Own.g := GOkI.nil _ _
noncomputable def spec_l1Own.i : FI := ⟨Tryz.f98, body Tryz.f98, (.seq .nil (.seq .nil .nil)), [], [], [.res (.tmp 2) (.own 3 (.int .i64))]⟩
noncomputable def spec_l1Own.sp : CSpec := mkSpec spec_l1Own.g T spec_l1Own.i
theorem spec_l1Own.ok : SpecOk Tryz.prog I 98 spec_l1Own.sp := mkSpec_ok hmix hI spec_l1Own.gok tok spec_l1Own.i Tryz.func98 (by kernel_rfl) (by kernel_rfl) (by kernel_rfl) (by kernel_rfl)
noncomputable def spec_l1Own.f (x0 : List Int) : Option (List Int) := run spec_l1Own.g T spec_l1Own.i [.v (.slice (.int .i64)) x0]
theorem spec_l1Own.f.eq (x0 : List Int) : spec_l1Own.f x0 =
  (catI (appMax 8) [] x0).bind fun y1 =>
  some y1 := by kernel_rfl
noncomputable def spec_JoinBorn.g : Gam := [(91, spec_roBorn.sp), (98, spec_l1Own.sp)]
theorem spec_JoinBorn.gok : GOkI Tryz.prog I spec_JoinBorn.g := ((GOkI.nil _ _).cons spec_l1Own.ok).cons spec_roBorn.ok
noncomputable def spec_JoinBorn.i : FI := ⟨Tryz.f28, body Tryz.f28, (.seq .nil (.seq (.seq .nil (.cond (.seq .nil .nil) .nil)) (.seq .nil .nil))), [], [], [.res (.tmp 4) (.own 3 (.int .i64)), .res (.tmp 5) (.v .bool)]⟩
noncomputable def spec_JoinBorn.sp : CSpec := mkSpec spec_JoinBorn.g T spec_JoinBorn.i
theorem spec_JoinBorn.ok : SpecOk Tryz.prog I 28 spec_JoinBorn.sp := mkSpec_ok hmix hI spec_JoinBorn.gok tok spec_JoinBorn.i Tryz.func28 (by kernel_rfl) (by kernel_rfl) (by kernel_rfl) (by kernel_rfl)
noncomputable def spec_JoinBorn.f (x0 : List Int) (x1 : List Int) : Option ((List Int) × Bool) := run spec_JoinBorn.g T spec_JoinBorn.i [.v (.slice (.int .i64)) x0, .v (.slice (.int .i64)) x1]
theorem spec_JoinBorn.f.eq (x0 : List Int) (x1 : List Int) : spec_JoinBorn.f x0 x1 =
  (spec_roBorn.f x0).bind fun y1 =>
  if (!y1) = true then
    some ([], false)
  else
    (spec_roBorn.f x1).bind fun y2 =>
    if (if false = true then true else !y2) = true then
      some ([], false)
    else
      if (if false = true then true else (decide ((IntKind.i64.wrap ((x0.length : Int) + (x1.length : Int))) > 10))) = true then
        some ([], false)
      else
        (spec_l1Own.f x0).bind fun y9 =>
        (catI (appMax 8) y9 x1).bind fun y10 =>
        some (y10, true) := by kernel_rfl
noncomputable def impl_joined.g : Gam := [(148, strconv_Itoa.sp), (125, strings_Join.sp)]
theorem impl_joined.gok : GOkI Tryz.prog I impl_joined.g := ((GOkI.nil _ _).cons strings_Join.ok).cons strconv_Itoa.ok
noncomputable def impl_joined.i : FI := ⟨Tryz.f99, body Tryz.f99, (.seq .nil (.seq .nil (.seq (.seq .nil (.blk (.loop [1, 5, 9, 10, 11] [] (.seq .nil (.seq (.cond .nil .nil) (.seq (.blk (.seq .nil .nil)) .nil)))))) (.seq .nil .nil)))), [], [], [.res (.tmp 4) (.v .str)]⟩
noncomputable def impl_joined.sp : CSpec := mkSpec impl_joined.g T impl_joined.i
theorem impl_joined.ok : SpecOk Tryz.prog I 99 impl_joined.sp := mkSpec_ok hmix hI impl_joined.gok tok impl_joined.i Tryz.func99 (by kernel_rfl) (by kernel_rfl) (by kernel_rfl) (by kernel_rfl)
noncomputable def impl_joined.f (x0 : List Int) (x1 : List UInt8) : Option (List UInt8) := run impl_joined.g T impl_joined.i [.v (.slice (.int .i64)) x0, .v .str x1]
noncomputable def impl_joined.l0 (x1 : List UInt8) (x5 : List (List UInt8)) (x9 : List Int) (x10 : Int) (x11 : Int) : Option (List UInt8) := runAt impl_joined.g T impl_joined.i [true, true, false, true, false] [(1, .val .str x1), (5, .own 9 .str x5), (9, .val (.slice (.int .i64)) x9), (10, .val (.int .i64) x10), (11, .val (.int .i64) x11)] []
theorem impl_joined.f.eq (x0 : List Int) (x1 : List UInt8) : impl_joined.f x0 x1 =
  impl_joined.l0 x1 [] x0 (x0.length : Int) 0 := by kernel_rfl
theorem impl_joined.l0.eq (x1 : List UInt8) (x5 : List (List UInt8)) (x9 : List Int) (x10 : Int) (x11 : Int) : impl_joined.l0 x1 x5 x9 x10 x11 =
  if (decide (x11 < x10)) = true then
    (rdI x9 x11).bind fun y2 =>
    (strconv_Itoa.f y2).bind fun y3 =>
    (catI (appMax 16) x5 [y3]).bind fun y4 =>
    impl_joined.l0 x1 y4 x9 x10 (IntKind.i64.wrap (x11 + 1))
  else
    (strings_Join.f x5 x1).bind fun y6 =>
    some y6 := (runAt_loop _ _ _ _ _ _).trans (by kernel_rfl)
noncomputable def impl_BornText.g : Gam := [(34, impl_AreBirths.sp), (99, impl_joined.sp)]
theorem impl_BornText.gok : GOkI Tryz.prog I impl_BornText.g := ((GOkI.nil _ _).cons impl_joined.ok).cons impl_AreBirths.ok
noncomputable def impl_BornText.i : FI := ⟨Tryz.f29, body Tryz.f29, (.seq .nil (.seq (.seq .nil (.cond (.seq .nil .nil) .nil)) (.seq .nil .nil))), [], [], [.res (.tmp 2) (.v .str), .res (.tmp 3) (.v .bool)]⟩
noncomputable def impl_BornText.sp : CSpec := mkSpec impl_BornText.g T impl_BornText.i
theorem impl_BornText.ok : SpecOk Tryz.prog I 29 impl_BornText.sp := mkSpec_ok hmix hI impl_BornText.gok tok impl_BornText.i Tryz.func29 (by kernel_rfl) (by kernel_rfl) (by kernel_rfl) (by kernel_rfl)
noncomputable def impl_BornText.f (x0 : List Int) : Option ((List UInt8) × Bool) := run impl_BornText.g T impl_BornText.i [.v (.slice (.int .i64)) x0]
theorem impl_BornText.f.eq (x0 : List Int) : impl_BornText.f x0 =
  (impl_AreBirths.f x0).bind fun y1 =>
  if (!y1) = true then
    some ([], false)
  else
    (impl_joined.f x0 [44]).bind fun y2 =>
    some (y2, true) := by kernel_rfl
noncomputable def spec_l1Num.g : Gam := []
theorem spec_l1Num.gok : GOkI Tryz.prog I spec_l1Num.g := GOkI.nil _ _
noncomputable def spec_l1Num.i : FI := ⟨Tryz.f149, body Tryz.f149, (.seq .nil (.seq (.seq .nil (.cond (.seq .nil .nil) .nil)) (.seq .nil .nil))), [], [], [.res (.tmp 2) (.v .str)]⟩
noncomputable def spec_l1Num.sp : CSpec := limSpec spec_l1Num.g T spec_l1Num.i 149
theorem spec_l1Num.ok : SpecOk Tryz.prog I 149 spec_l1Num.sp := limSpec_ok hmix hI spec_l1Num.gok tok spec_l1Num.i Tryz.func149 (by kernel_rfl) (by kernel_rfl) (by kernel_rfl) (by kernel_rfl)
noncomputable def spec_l1Num.r (k : Nat) (x0 : Int) : Option (List UInt8) := recO spec_l1Num.g T spec_l1Num.i 149 k [.v (.int .i64) x0]
noncomputable def spec_l1Num.f (x0 : Int) : Option (List UInt8) := lim fun k => spec_l1Num.r k x0
theorem spec_l1Num.r.eq (k : Nat) (x0 : Int) : spec_l1Num.r (k + 1) x0 =
  if (decide (x0 < 10)) = true then
    some ([(IntKind.u8.wrap (IntKind.i64.wrap (48 + x0)))].map fun n => UInt8.ofNat n.toNat)
  else
    (spec_l1Num.r k (IntKind.i64.wrap (x0.tdiv 10))).bind fun y5 =>
    (catI strMax y5 ([(IntKind.u8.wrap (IntKind.i64.wrap (48 + (x0.tmod 10))))].map fun n => UInt8.ofNat n.toNat)).bind fun y9 =>
    some y9 := by kernel_rfl
noncomputable def spec_roText.g : Gam := [(149, spec_l1Num.sp)]
theorem spec_roText.gok : GOkI Tryz.prog I spec_roText.g := (GOkI.nil _ _).cons spec_l1Num.ok
noncomputable def spec_roText.i : FI := ⟨Tryz.f100, body Tryz.f100, (.seq .nil (.seq .nil (.seq (.seq .nil (.blk (.loop [3, 6, 7, 8] [] (.seq .nil (.seq (.cond .nil .nil) (.seq (.blk (.seq .nil (.seq (.seq .nil (.cond .nil .nil)) .nil))) .nil)))))) (.seq .nil .nil)))), [], [], [.res (.tmp 2) (.v .str)]⟩
noncomputable def spec_roText.sp : CSpec := mkSpec spec_roText.g T spec_roText.i
theorem spec_roText.ok : SpecOk Tryz.prog I 100 spec_roText.sp := mkSpec_ok hmix hI spec_roText.gok tok spec_roText.i Tryz.func100 (by kernel_rfl) (by kernel_rfl) (by kernel_rfl) (by kernel_rfl)
noncomputable def spec_roText.f (x0 : List Int) : Option (List UInt8) := run spec_roText.g T spec_roText.i [.v (.slice (.int .i64)) x0]
noncomputable def spec_roText.l0 (x3 : List UInt8) (x6 : List Int) (x7 : Int) (x8 : Int) : Option (List UInt8) := runAt spec_roText.g T spec_roText.i [true, true, false, true, false] [(3, .val .str x3), (6, .val (.slice (.int .i64)) x6), (7, .val (.int .i64) x7), (8, .val (.int .i64) x8)] []
theorem spec_roText.f.eq (x0 : List Int) : spec_roText.f x0 =
  spec_roText.l0 [] x0 (x0.length : Int) 0 := by kernel_rfl
theorem spec_roText.l0.eq (x3 : List UInt8) (x6 : List Int) (x7 : Int) (x8 : Int) : spec_roText.l0 x3 x6 x7 x8 =
  if (decide (x8 < x7)) = true then
    (rdI x6 x8).bind fun y2 =>
    if (decide (x8 > 0)) = true then
      (catI strMax x3 [44]).bind fun y4 =>
      (spec_l1Num.f y2).bind fun y5 =>
      (catI strMax y4 y5).bind fun y6 =>
      spec_roText.l0 y6 x6 x7 (IntKind.i64.wrap (x8 + 1))
    else
      (spec_l1Num.f y2).bind fun y8 =>
      (catI strMax x3 y8).bind fun y9 =>
      spec_roText.l0 y9 x6 x7 (IntKind.i64.wrap (x8 + 1))
  else
    some x3 := (runAt_loop _ _ _ _ _ _).trans (by kernel_rfl)
noncomputable def spec_BornText.g : Gam := [(91, spec_roBorn.sp), (100, spec_roText.sp)]
theorem spec_BornText.gok : GOkI Tryz.prog I spec_BornText.g := ((GOkI.nil _ _).cons spec_roText.ok).cons spec_roBorn.ok
noncomputable def spec_BornText.i : FI := ⟨Tryz.f30, body Tryz.f30, (.seq .nil (.seq (.seq .nil (.cond (.seq .nil .nil) .nil)) (.seq .nil .nil))), [], [], [.res (.tmp 2) (.v .str), .res (.tmp 3) (.v .bool)]⟩
noncomputable def spec_BornText.sp : CSpec := mkSpec spec_BornText.g T spec_BornText.i
theorem spec_BornText.ok : SpecOk Tryz.prog I 30 spec_BornText.sp := mkSpec_ok hmix hI spec_BornText.gok tok spec_BornText.i Tryz.func30 (by kernel_rfl) (by kernel_rfl) (by kernel_rfl) (by kernel_rfl)
noncomputable def spec_BornText.f (x0 : List Int) : Option ((List UInt8) × Bool) := run spec_BornText.g T spec_BornText.i [.v (.slice (.int .i64)) x0]
theorem spec_BornText.f.eq (x0 : List Int) : spec_BornText.f x0 =
  (spec_roBorn.f x0).bind fun y1 =>
  if (!y1) = true then
    some ([], false)
  else
    (spec_roText.f x0).bind fun y2 =>
    some (y2, true) := by kernel_rfl
noncomputable def spec_l1Cur_spoilt.g : Gam := [(89, spec_l1Cur_pick.sp)]
theorem spec_l1Cur_spoilt.gok : GOkI Tryz.prog I spec_l1Cur_spoilt.g := (GOkI.nil _ _).cons spec_l1Cur_pick.ok
noncomputable def spec_l1Cur_spoilt.i : FI := ⟨Tryz.f102, body Tryz.f102, (.seq .nil (.seq (.seq .nil (.blk (.loop [0, 1, 2, 7] [1000000] (.seq (.cut [0, 1, 2, 7, 19] [1000000] .nil (.cond .nil .nil)) (.seq (.blk (.seq .nil (.seq .nil (.seq .nil (.blk (.seq .nil (.cond .nil (.seq .nil (.cond .nil .nil))))))))) .nil))))) (.seq .nil .nil))), [], [1000000], [.res (.tmp 6) (.v .str), .box 1000000 0 (.slice (.int .u8)), .box 1000000 1 (.int .i64), .box 1000000 2 (.int .u64)]⟩
noncomputable def spec_l1Cur_spoilt.sp : CSpec := mkSpec spec_l1Cur_spoilt.g T spec_l1Cur_spoilt.i
theorem spec_l1Cur_spoilt.ok : SpecOk Tryz.prog I 102 spec_l1Cur_spoilt.sp := mkSpec_ok hmix hI spec_l1Cur_spoilt.gok tok spec_l1Cur_spoilt.i Tryz.func102 (by kernel_rfl) (by kernel_rfl) (by kernel_rfl) (by kernel_rfl)
noncomputable def spec_l1Cur_spoilt.f (x0_0 : List Int) (x0_1 : Int) (x0_2 : Int) (x1 : List UInt8) (x2 : List UInt8) : Option ((List UInt8) × (List Int) × Int × Int) := run spec_l1Cur_spoilt.g T spec_l1Cur_spoilt.i [.bx [⟨(.slice (.int .u8)), x0_0⟩, ⟨(.int .i64), x0_1⟩, ⟨(.int .u64), x0_2⟩], .v .str x1, .v .str x2]
noncomputable def spec_l1Cur_spoilt.l0 (x1 : List UInt8) (x2 : List UInt8) (x7 : Int) (x0_0 : List Int) (x0_1 : Int) (x0_2 : Int) : Option ((List UInt8) × (List Int) × Int × Int) := runAt spec_l1Cur_spoilt.g T spec_l1Cur_spoilt.i [true, false, true, false] [(0, .ptr 1000000 0), (1, .val .str x1), (2, .val .str x2), (7, .val (.int .i64) x7)] [(1000000, [⟨(.slice (.int .u8)), x0_0⟩, ⟨(.int .i64), x0_1⟩, ⟨(.int .u64), x0_2⟩])]
noncomputable def spec_l1Cur_spoilt.j0 (x1 : List UInt8) (x2 : List UInt8) (x7 : Int) (x19 : Bool) (x0_0 : List Int) (x0_1 : Int) (x0_2 : Int) : Option ((List UInt8) × (List Int) × Int × Int) := runJ spec_l1Cur_spoilt.g T spec_l1Cur_spoilt.i [true, false, true, false, false, false, true] [(0, .ptr 1000000 0), (1, .val .str x1), (2, .val .str x2), (7, .val (.int .i64) x7), (19, .val .bool x19)] [(1000000, [⟨(.slice (.int .u8)), x0_0⟩, ⟨(.int .i64), x0_1⟩, ⟨(.int .u64), x0_2⟩])]
theorem spec_l1Cur_spoilt.f.eq (x0_0 : List Int) (x0_1 : Int) (x0_2 : Int) (x1 : List UInt8) (x2 : List UInt8) : spec_l1Cur_spoilt.f x0_0 x0_1 x0_2 x1 x2 =
  (spec_l1Cur_pick.f x0_0 x0_1 x0_2 2).bind fun y1 =>
  spec_l1Cur_spoilt.l0 x1 x2 (IntKind.i64.wrap (1 + y1.1)) y1.2.1 y1.2.2.1 y1.2.2.2 := by kernel_rfl
theorem spec_l1Cur_spoilt.l0.eq (x1 : List UInt8) (x2 : List UInt8) (x7 : Int) (x0_0 : List Int) (x0_1 : Int) (x0_2 : Int) : spec_l1Cur_spoilt.l0 x1 x2 x7 x0_0 x0_1 x0_2 =
  if (decide (x7 > 0)) = true then
    spec_l1Cur_spoilt.j0 x1 x2 x7 (if true = true then (decide ((x1.length : Int) > 0)) else false) x0_0 x0_1 x0_2
  else
    spec_l1Cur_spoilt.j0 x1 x2 x7 false x0_0 x0_1 x0_2 := (runAt_loop _ _ _ _ _ _).trans (by kernel_rfl)
theorem spec_l1Cur_spoilt.j0.eq (x1 : List UInt8) (x2 : List UInt8) (x7 : Int) (x19 : Bool) (x0_0 : List Int) (x0_1 : Int) (x0_2 : Int) : spec_l1Cur_spoilt.j0 x1 x2 x7 x19 x0_0 x0_1 x0_2 =
  if x19 = true then
    (spec_l1Cur_pick.f x0_0 x0_1 x0_2 (x1.length : Int)).bind fun y2 =>
    (spec_l1Cur_pick.f y2.2.1 y2.2.2.1 y2.2.2.2 (x2.length : Int)).bind fun y4 =>
    (rdI x2 y4.1).bind fun y5 =>
    (spec_l1Cur_pick.f y4.2.1 y4.2.2.1 y4.2.2.2 3).bind fun y7 =>
    if (y7.1 == 0) = true then
      (subI x1 0 y2.1).bind fun y9 =>
      (catI strMax y9 ([(y5.toNat : Int)].map fun n => UInt8.ofNat n.toNat)).bind fun y10 =>
      (subI x1 y2.1 x1.length).bind fun y11 =>
      (catI strMax y10 y11).bind fun y12 =>
      spec_l1Cur_spoilt.l0 y12 x2 (IntKind.i64.wrap (x7 - 1)) y7.2.1 y7.2.2.1 y7.2.2.2
    else
      if (y7.1 == 1) = true then
        (subI x1 0 y2.1).bind fun y15 =>
        (catI strMax y15 ([(y5.toNat : Int)].map fun n => UInt8.ofNat n.toNat)).bind fun y16 =>
        (subI x1 (IntKind.i64.wrap (y2.1 + 1)) x1.length).bind fun y18 =>
        (catI strMax y16 y18).bind fun y19 =>
        spec_l1Cur_spoilt.l0 y19 x2 (IntKind.i64.wrap (x7 - 1)) y7.2.1 y7.2.2.1 y7.2.2.2
      else
        (subI x1 0 y2.1).bind fun y21 =>
        (subI x1 (IntKind.i64.wrap (y2.1 + 1)) x1.length).bind fun y23 =>
        (catI strMax y21 y23).bind fun y24 =>
        spec_l1Cur_spoilt.l0 y24 x2 (IntKind.i64.wrap (x7 - 1)) y7.2.1 y7.2.2.1 y7.2.2.2
  else
    some (x1, x0_0, x0_1, x0_2) := (runJ_eq _ _ _ _ _ _).trans (by kernel_rfl)
end Go.Proofs.YtpnkeknmgfdpdaaGreatDoorRR.S
