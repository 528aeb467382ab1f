/- What the functions of this seat come to, over plain values. No condition. -/
import Derived.Test.YtobblofdkpljfaaGreatDoorE3
import Derived.Test.YtobblofdkpljfaaGreatDoorH
import Derived.Test.YtobblofdkpljfaaGreatDoorProg
namespace Go.Proofs.YtobblofdkpljfaaGreatDoor.S
open Go Go.Proofs.YtobblofdkpljfaaGreatDoor.Eng Go.Proofs
set_option maxRecDepth 1000000
set_option linter.unusedVariables false
def T : Tys := [(3, ⟨(.int .i64), 0, 0, []⟩), (4, ⟨.bool, 0, 0, []⟩), (5, ⟨(.int .u8), 0, 0, []⟩), (9, ⟨.str, 0, 0, []⟩), (22, ⟨(.slice (.int .u8)), 5, 1, []⟩), (25, ⟨(.pair (.int .i64) (.int .i64)), 0, 0, [(3, 0), (3, 1)]⟩), (30, ⟨(.slice (.pair (.int .i64) (.int .i64))), 25, 16, []⟩), (35, ⟨(.slice (.int .i64)), 3, 8, []⟩), (38, ⟨(.slice (.slice (.int .i64))), 35, 24, []⟩), (62, ⟨(.int .u64), 0, 0, []⟩), (64, ⟨(.pair (.slice (.int .u8)) (.pair (.int .i64) (.int .u64))), 0, 0, [(22, 0), (3, 1), (62, 2)]⟩), (81, ⟨(.slice .str), 9, 16, []⟩)]
theorem tok3 : TFits Tryz.prog T 3 ⟨(.int .i64), 0, 0, []⟩ := TFits.int' (by kernel_rfl) (by kernel_rfl) (by kernel_rfl)
theorem tok4 : TFits Tryz.prog T 4 ⟨.bool, 0, 0, []⟩ := TFits.bool' (by kernel_rfl) (by kernel_rfl) (by kernel_rfl)
theorem tok5 : TFits Tryz.prog T 5 ⟨(.int .u8), 0, 0, []⟩ := TFits.int' (by kernel_rfl) (by kernel_rfl) (by kernel_rfl)
theorem tok9 : TFits Tryz.prog T 9 ⟨.str, 0, 0, []⟩ := TFits.str' (by kernel_rfl) (by kernel_rfl) (by kernel_rfl)
theorem tok22 : TFits Tryz.prog T 22 ⟨(.slice (.int .u8)), 5, 1, []⟩ := TFits.slice' (by kernel_rfl) (by kernel_rfl) (by kernel_rfl) (by kernel_rfl) (by kernel_rfl) (by kernel_rfl)
theorem tok25 : TFits Tryz.prog T 25 ⟨(.pair (.int .i64) (.int .i64)), 0, 0, [(3, 0), (3, 1)]⟩ := TFits.pair' (by kernel_rfl) (by kernel_rfl) (by kernel_rfl) (by kernel_rfl) (by kernel_rfl)
theorem tok30 : TFits Tryz.prog T 30 ⟨(.slice (.pair (.int .i64) (.int .i64))), 25, 16, []⟩ := TFits.slice' (by kernel_rfl) (by kernel_rfl) (by kernel_rfl) (by kernel_rfl) (by kernel_rfl) (by kernel_rfl)
theorem tok35 : TFits Tryz.prog T 35 ⟨(.slice (.int .i64)), 3, 8, []⟩ := TFits.slice' (by kernel_rfl) (by kernel_rfl) (by kernel_rfl) (by kernel_rfl) (by kernel_rfl) (by kernel_rfl)
theorem tok38 : TFits Tryz.prog T 38 ⟨(.slice (.slice (.int .i64))), 35, 24, []⟩ := TFits.slice' (by kernel_rfl) (by kernel_rfl) (by kernel_rfl) (by kernel_rfl) (by kernel_rfl) (by kernel_rfl)
theorem tok62 : TFits Tryz.prog T 62 ⟨(.int .u64), 0, 0, []⟩ := TFits.int' (by kernel_rfl) (by kernel_rfl) (by kernel_rfl)
theorem tok64 : TFits Tryz.prog T 64 ⟨(.pair (.slice (.int .u8)) (.pair (.int .i64) (.int .u64))), 0, 0, [(22, 0), (3, 1), (62, 2)]⟩ := TFits.pair' (by kernel_rfl) (by kernel_rfl) (by kernel_rfl) (by kernel_rfl) (by kernel_rfl)
theorem tok81 : TFits Tryz.prog T 81 ⟨(.slice .str), 9, 16, []⟩ := TFits.slice' (by kernel_rfl) (by kernel_rfl) (by kernel_rfl) (by kernel_rfl) (by kernel_rfl) (by kernel_rfl)
theorem tok : TOk Tryz.prog T := TOkL.ok (((((((((((((TOkL.nil _ _).cons tok81).cons tok64).cons tok62).cons tok38).cons tok35).cons tok30).cons tok25).cons tok22).cons tok9).cons tok5).cons tok4).cons tok3)
theorem hmix : Tryz.prog.follows .mixedOrders = true := by kernel_rfl
def body (f : Func) : Code := f.body.getD .skip
noncomputable def laws_big.g : Gam := []
theorem laws_big.gok : GOkI Tryz.prog I laws_big.g := GOkI.nil _ _
noncomputable def laws_big.i : FI := ⟨Tryz.f4, body Tryz.f4, (.seq .nil (.seq .nil .nil)), [], [], [.res (.tmp 4) (.v .bool)]⟩
noncomputable def laws_big.sp : CSpec := mkSpec laws_big.g T laws_big.i
theorem laws_big.ok : SpecOk Tryz.prog I 4 laws_big.sp := mkSpec_ok hmix hI laws_big.gok tok laws_big.i Tryz.func4 (by kernel_rfl) (by kernel_rfl) (by kernel_rfl) (by kernel_rfl)
noncomputable def laws_big.f (x0 : List Int) (x1 : List Int) : Option (Bool) := run laws_big.g T laws_big.i [.v (.slice (.int .u8)) x0, .v (.slice (.int .u8)) x1]
theorem laws_big.f.eq (x0 : List Int) (x1 : List Int) : laws_big.f x0 x1 =
  if (decide ((x0.length : Int) > 1048576)) = true then
    some true
  else
    some (if false = true then true else (decide ((x1.length : Int) > (IntKind.i64.wrap (1048576 - (x0.length : Int)))))) := by kernel_rfl
noncomputable def spec_l1Cur_next.g : Gam := []
theorem spec_l1Cur_next.gok : GOkI Tryz.prog I spec_l1Cur_next.g := GOkI.nil _ _
noncomputable def spec_l1Cur_next.i : FI := ⟨Tryz.f92, body Tryz.f92, (.seq .nil (.seq .nil (.seq (.seq .nil (.cond .nil .nil)) (.seq .nil (.seq .nil (.seq (.seq .nil (.cond (.seq .nil .nil) .nil)) (.seq .nil .nil))))))), [], [1000000], [.res (.tmp 2) (.v (.int .i64)), .box 1000000 0 (.slice (.int .u8)), .box 1000000 1 (.int .i64), .box 1000000 2 (.int .u64)]⟩
noncomputable def spec_l1Cur_next.sp : CSpec := mkSpec spec_l1Cur_next.g T spec_l1Cur_next.i
theorem spec_l1Cur_next.ok : SpecOk Tryz.prog I 92 spec_l1Cur_next.sp := mkSpec_ok hmix hI spec_l1Cur_next.gok tok spec_l1Cur_next.i Tryz.func92 (by kernel_rfl) (by kernel_rfl) (by kernel_rfl) (by kernel_rfl)
noncomputable def spec_l1Cur_next.f (x0_0 : List Int) (x0_1 : Int) (x0_2 : Int) : Option (Int × (List Int) × Int × Int) := run spec_l1Cur_next.g T spec_l1Cur_next.i [.bx [⟨(.slice (.int .u8)), x0_0⟩, ⟨(.int .i64), x0_1⟩, ⟨(.int .u64), x0_2⟩]]
theorem spec_l1Cur_next.f.eq (x0_0 : List Int) (x0_1 : Int) (x0_2 : Int) : spec_l1Cur_next.f x0_0 x0_1 x0_2 =
  if (decide (x0_1 < (x0_0.length : Int))) = true then
    (rdI x0_0 x0_1).bind fun y3 =>
    let y5 := IntKind.i64.wrap (x0_1 + 1)
    let y9 := IntKind.u64.wrap ((IntKind.u64.wrap ((IntKind.u64.wrap (x0_2 * 6364136223846793005)) + (IntKind.u64.wrap (IntKind.i64.wrap y3)))) + 1442695040888963407)
    if (decide (y5 ≤ (x0_0.length : Int))) = true then
      some ((IntKind.i64.wrap y3), x0_0, y5, y9)
    else
      some ((IntKind.i64.wrap (bitI .and .u64 (shrI .u64 y9 40) 255)), x0_0, y5, y9)
  else
    let y15 := IntKind.i64.wrap (x0_1 + 1)
    let y19 := IntKind.u64.wrap ((IntKind.u64.wrap ((IntKind.u64.wrap (x0_2 * 6364136223846793005)) + (IntKind.u64.wrap 0))) + 1442695040888963407)
    if (decide (y15 ≤ (x0_0.length : Int))) = true then
      some (0, x0_0, y15, y19)
    else
      some ((IntKind.i64.wrap (bitI .and .u64 (shrI .u64 y19 40) 255)), x0_0, y15, y19) := by kernel_rfl
noncomputable def spec_l1Cur_pick.g : Gam := [(92, spec_l1Cur_next.sp)]
theorem spec_l1Cur_pick.gok : GOkI Tryz.prog I spec_l1Cur_pick.g := (GOkI.nil _ _).cons spec_l1Cur_next.ok
noncomputable def spec_l1Cur_pick.i : FI := ⟨Tryz.f79, body Tryz.f79, (.seq .nil (.seq (.seq .nil (.cond (.seq .nil .nil) .nil)) (.seq .nil (.seq (.seq .nil (.cond .nil .nil)) (.seq .nil .nil))))), [], [1000000], [.res (.tmp 4) (.v (.int .i64)), .box 1000000 0 (.slice (.int .u8)), .box 1000000 1 (.int .i64), .box 1000000 2 (.int .u64)]⟩
noncomputable def spec_l1Cur_pick.sp : CSpec := mkSpec spec_l1Cur_pick.g T spec_l1Cur_pick.i
theorem spec_l1Cur_pick.ok : SpecOk Tryz.prog I 79 spec_l1Cur_pick.sp := mkSpec_ok hmix hI spec_l1Cur_pick.gok tok spec_l1Cur_pick.i Tryz.func79 (by kernel_rfl) (by kernel_rfl) (by kernel_rfl) (by kernel_rfl)
noncomputable def spec_l1Cur_pick.f (x0_0 : List Int) (x0_1 : Int) (x0_2 : Int) (x1 : Int) : Option (Int × (List Int) × Int × Int) := run spec_l1Cur_pick.g T spec_l1Cur_pick.i [.bx [⟨(.slice (.int .u8)), x0_0⟩, ⟨(.int .i64), x0_1⟩, ⟨(.int .u64), x0_2⟩], .v (.int .i64) x1]
theorem spec_l1Cur_pick.f.eq (x0_0 : List Int) (x0_1 : Int) (x0_2 : Int) (x1 : Int) : spec_l1Cur_pick.f x0_0 x0_1 x0_2 x1 =
  if (decide (x1 ≤ 1)) = true then
    some (0, x0_0, x0_1, x0_2)
  else
    (spec_l1Cur_next.f x0_0 x0_1 x0_2).bind fun y2 =>
    if (decide (x1 > 200)) = true then
      (spec_l1Cur_next.f y2.2.1 y2.2.2.1 y2.2.2.2).bind fun y5 =>
      if x1 = 0 then
        none
      else
        some (((IntKind.i64.wrap ((IntKind.i64.wrap (y2.1 * 256)) + y5.1)).tmod x1), y5.2.1, y5.2.2.1, y5.2.2.2)
    else
      if x1 = 0 then
        none
      else
        some ((y2.1.tmod x1), y2.2.1, y2.2.2.1, y2.2.2.2) := by kernel_rfl
noncomputable def spec_l1Cur_among.g : Gam := [(79, spec_l1Cur_pick.sp)]
theorem spec_l1Cur_among.gok : GOkI Tryz.prog I spec_l1Cur_among.g := (GOkI.nil _ _).cons spec_l1Cur_pick.ok
noncomputable def spec_l1Cur_among.i : FI := ⟨Tryz.f42, body Tryz.f42, (.seq .nil (.seq .nil .nil)), [], [1000000], [.res (.tmp 4) (.v (.int .i64)), .box 1000000 0 (.slice (.int .u8)), .box 1000000 1 (.int .i64), .box 1000000 2 (.int .u64)]⟩
noncomputable def spec_l1Cur_among.sp : CSpec := mkSpec spec_l1Cur_among.g T spec_l1Cur_among.i
theorem spec_l1Cur_among.ok : SpecOk Tryz.prog I 42 spec_l1Cur_among.sp := mkSpec_ok hmix hI spec_l1Cur_among.gok tok spec_l1Cur_among.i Tryz.func42 (by kernel_rfl) (by kernel_rfl) (by kernel_rfl) (by kernel_rfl)
noncomputable def spec_l1Cur_among.f (x0_0 : List Int) (x0_1 : Int) (x0_2 : Int) (x1 : List Int) : Option (Int × (List Int) × Int × Int) := run spec_l1Cur_among.g T spec_l1Cur_among.i [.bx [⟨(.slice (.int .u8)), x0_0⟩, ⟨(.int .i64), x0_1⟩, ⟨(.int .u64), x0_2⟩], .v (.slice (.int .i64)) x1]
theorem spec_l1Cur_among.f.eq (x0_0 : List Int) (x0_1 : Int) (x0_2 : Int) (x1 : List Int) : spec_l1Cur_among.f x0_0 x0_1 x0_2 x1 =
  (spec_l1Cur_pick.f x0_0 x0_1 x0_2 (x1.length : Int)).bind fun y2 =>
  (rdI x1 y2.1).bind fun y3 =>
  some (y3, y2.2.1, y2.2.2.1, y2.2.2.2) := by kernel_rfl
noncomputable def spec_l1Cur_sureDate.g : Gam := [(42, spec_l1Cur_among.sp)]
theorem spec_l1Cur_sureDate.gok : GOkI Tryz.prog I spec_l1Cur_sureDate.g := (GOkI.nil _ _).cons spec_l1Cur_among.ok
noncomputable def spec_l1Cur_sureDate.i : FI := ⟨Tryz.f41, body Tryz.f41, (.seq .nil (.seq .nil (.seq .nil (.seq .nil .nil)))), [], [1000000], [.res (.cell 2 25) (.v (.pair (.int .i64) (.int .i64))), .box 1000000 0 (.slice (.int .u8)), .box 1000000 1 (.int .i64), .box 1000000 2 (.int .u64)]⟩
noncomputable def spec_l1Cur_sureDate.sp : CSpec := mkSpec spec_l1Cur_sureDate.g T spec_l1Cur_sureDate.i
theorem spec_l1Cur_sureDate.ok : SpecOk Tryz.prog I 41 spec_l1Cur_sureDate.sp := mkSpec_ok hmix hI spec_l1Cur_sureDate.gok tok spec_l1Cur_sureDate.i Tryz.func41 (by kernel_rfl) (by kernel_rfl) (by kernel_rfl) (by kernel_rfl)
noncomputable def spec_l1Cur_sureDate.f (x0_0 : List Int) (x0_1 : Int) (x0_2 : Int) : Option ((Int × Int) × (List Int) × Int × Int) := run spec_l1Cur_sureDate.g T spec_l1Cur_sureDate.i [.bx [⟨(.slice (.int .u8)), x0_0⟩, ⟨(.int .i64), x0_1⟩, ⟨(.int .u64), x0_2⟩]]
theorem spec_l1Cur_sureDate.f.eq (x0_0 : List Int) (x0_1 : Int) (x0_2 : Int) : spec_l1Cur_sureDate.f x0_0 x0_1 x0_2 =
  (spec_l1Cur_among.f x0_0 x0_1 x0_2 [1990, 1991, 1992, 1995, 1999, 1960]).bind fun y1 =>
  (spec_l1Cur_among.f y1.2.1 y1.2.2.1 y1.2.2.2 [1, 50, 99, 100, 101, 200, 364, 365]).bind fun y2 =>
  some ((y1.1, y2.1), y2.2.1, y2.2.2.1, y2.2.2.2) := by kernel_rfl
noncomputable def spec_DrawDaysAlike.g : Gam := [(41, spec_l1Cur_sureDate.sp), (42, spec_l1Cur_among.sp)]
theorem spec_DrawDaysAlike.gok : GOkI Tryz.prog I spec_DrawDaysAlike.g := ((GOkI.nil _ _).cons spec_l1Cur_among.ok).cons spec_l1Cur_sureDate.ok
noncomputable def spec_DrawDaysAlike.i : FI := ⟨Tryz.f5, body Tryz.f5, (.seq .nil (.seq .nil (.seq .nil (.seq .nil (.seq .nil .nil))))), [], [], [.res (.cell 2 25) (.v (.pair (.int .i64) (.int .i64))), .res (.cell 3 25) (.v (.pair (.int .i64) (.int .i64))), .res (.tmp 4) (.v (.int .i64))]⟩
noncomputable def spec_DrawDaysAlike.sp : CSpec := mkSpec spec_DrawDaysAlike.g T spec_DrawDaysAlike.i
theorem spec_DrawDaysAlike.ok : SpecOk Tryz.prog I 5 spec_DrawDaysAlike.sp := mkSpec_ok hmix hI spec_DrawDaysAlike.gok tok spec_DrawDaysAlike.i Tryz.func5 (by kernel_rfl) (by kernel_rfl) (by kernel_rfl) (by kernel_rfl)
noncomputable def spec_DrawDaysAlike.f (x0 : List Int) : Option ((Int × Int) × (Int × Int) × Int) := run spec_DrawDaysAlike.g T spec_DrawDaysAlike.i [.v (.slice (.int .u8)) x0]
theorem spec_DrawDaysAlike.f.eq (x0 : List Int) : spec_DrawDaysAlike.f x0 =
  (spec_l1Cur_sureDate.f x0 0 0).bind fun y1 =>
  (spec_l1Cur_sureDate.f y1.2.1 y1.2.2.1 y1.2.2.2).bind fun y2 =>
  (spec_l1Cur_among.f y2.2.1 y2.2.2.1 y2.2.2.2 [2000, 2000, 1996, 1992, 0, 3000, 3001]).bind fun y3 =>
  some ((y1.1.1, y1.1.2), (y2.1.1, y2.1.2), y3.1) := by kernel_rfl
noncomputable def impl_between.g : Gam := []
theorem impl_between.gok : GOkI Tryz.prog I impl_between.g := GOkI.nil _ _
noncomputable def impl_between.i : FI := ⟨Tryz.f44, body Tryz.f44, (.seq .nil (.seq .nil .nil)), [], [], [.res (.tmp 6) (.v .bool)]⟩
noncomputable def impl_between.sp : CSpec := mkSpec impl_between.g T impl_between.i
theorem impl_between.ok : SpecOk Tryz.prog I 44 impl_between.sp := mkSpec_ok hmix hI impl_between.gok tok impl_between.i Tryz.func44 (by kernel_rfl) (by kernel_rfl) (by kernel_rfl) (by kernel_rfl)
noncomputable def impl_between.f (x0 : Int) (x1 : Int) (x2 : Int) : Option (Bool) := run impl_between.g T impl_between.i [.v (.int .i64) x0, .v (.int .i64) x1, .v (.int .i64) x2]
theorem impl_between.f.eq (x0 : Int) (x1 : Int) (x2 : Int) : impl_between.f x0 x1 x2 =
  if (decide (x0 ≥ x1)) = true then
    some (if true = true then (decide (x0 ≤ x2)) else false)
  else
    some false := by kernel_rfl
noncomputable def impl_IsDate.g : Gam := [(44, impl_between.sp)]
theorem impl_IsDate.gok : GOkI Tryz.prog I impl_IsDate.g := (GOkI.nil _ _).cons impl_between.ok
noncomputable def impl_IsDate.i : FI := ⟨Tryz.f43, body Tryz.f43, (.seq .nil (.seq .nil .nil)), [], [], [.res (.tmp 2) (.v .bool)]⟩
noncomputable def impl_IsDate.sp : CSpec := mkSpec impl_IsDate.g T impl_IsDate.i
theorem impl_IsDate.ok : SpecOk Tryz.prog I 43 impl_IsDate.sp := mkSpec_ok hmix hI impl_IsDate.gok tok impl_IsDate.i Tryz.func43 (by kernel_rfl) (by kernel_rfl) (by kernel_rfl) (by kernel_rfl)
noncomputable def impl_IsDate.f (x0 : Int × Int) : Option (Bool) := run impl_IsDate.g T impl_IsDate.i [.v (.pair (.int .i64) (.int .i64)) x0]
theorem impl_IsDate.f.eq (x0 : Int × Int) : impl_IsDate.f x0 =
  (impl_between.f x0.1 0 3000).bind fun y1 =>
  if y1 = true then
    (impl_between.f x0.2 1 365).bind fun y2 =>
    some (if true = true then y2 else false)
  else
    some false := by kernel_rfl
noncomputable def impl_Date_index.g : Gam := []
theorem impl_Date_index.gok : GOkI Tryz.prog I impl_Date_index.g := GOkI.nil _ _
noncomputable def impl_Date_index.i : FI := ⟨Tryz.f60, body Tryz.f60, (.seq .nil (.seq .nil .nil)), [], [], [.res (.tmp 2) (.v (.int .i64))]⟩
noncomputable def impl_Date_index.sp : CSpec := mkSpec impl_Date_index.g T impl_Date_index.i
theorem impl_Date_index.ok : SpecOk Tryz.prog I 60 impl_Date_index.sp := mkSpec_ok hmix hI impl_Date_index.gok tok impl_Date_index.i Tryz.func60 (by kernel_rfl) (by kernel_rfl) (by kernel_rfl) (by kernel_rfl)
noncomputable def impl_Date_index.f (x0 : Int × Int) : Option (Int) := run impl_Date_index.g T impl_Date_index.i [.v (.pair (.int .i64) (.int .i64)) x0]
theorem impl_Date_index.f.eq (x0 : Int × Int) : impl_Date_index.f x0 =
  some (IntKind.i64.wrap ((IntKind.i64.wrap ((IntKind.i64.wrap (x0.1 * 365)) + x0.2)) - 1)) := by kernel_rfl
noncomputable def impl_Date_age.g : Gam := [(60, impl_Date_index.sp)]
theorem impl_Date_age.gok : GOkI Tryz.prog I impl_Date_age.g := (GOkI.nil _ _).cons impl_Date_index.ok
noncomputable def impl_Date_age.i : FI := ⟨Tryz.f45, body Tryz.f45, (.seq .nil (.seq .nil .nil)), [], [], [.res (.tmp 4) (.v (.int .i64))]⟩
noncomputable def impl_Date_age.sp : CSpec := mkSpec impl_Date_age.g T impl_Date_age.i
theorem impl_Date_age.ok : SpecOk Tryz.prog I 45 impl_Date_age.sp := mkSpec_ok hmix hI impl_Date_age.gok tok impl_Date_age.i Tryz.func45 (by kernel_rfl) (by kernel_rfl) (by kernel_rfl) (by kernel_rfl)
noncomputable def impl_Date_age.f (x0 : Int × Int) (x1 : Int) : Option (Int) := run impl_Date_age.g T impl_Date_age.i [.v (.pair (.int .i64) (.int .i64)) x0, .v (.int .i64) x1]
theorem impl_Date_age.f.eq (x0 : Int × Int) (x1 : Int) : impl_Date_age.f x0 x1 =
  (impl_Date_index.f (x0.1, x0.2)).bind fun y1 =>
  some (IntKind.i64.wrap ((IntKind.i64.wrap (x1 - y1)).tdiv 365)) := by kernel_rfl
noncomputable def impl_DaysAlike.g : Gam := [(43, impl_IsDate.sp), (45, impl_Date_age.sp), (44, impl_between.sp)]
theorem impl_DaysAlike.gok : GOkI Tryz.prog I impl_DaysAlike.g := (((GOkI.nil _ _).cons impl_between.ok).cons impl_Date_age.ok).cons impl_IsDate.ok
noncomputable def impl_DaysAlike.i : FI := ⟨Tryz.f6, body Tryz.f6, (.seq .nil (.seq (.cut [2, 3, 4, 35] [3, 4] .nil (.cond (.seq .nil .nil) .nil)) (.seq .nil (.seq (.seq .nil (.blk (.loop [2, 3, 4, 8, 36] [3, 4] (.seq .nil (.seq (.cond .nil .nil) (.seq (.blk (.seq .nil (.seq .nil (.seq .nil (.cond .nil .nil))))) .nil)))))) (.seq .nil .nil))))), [], [], [.res (.tmp 6) (.v (.int .i64)), .res (.tmp 7) (.v .bool)]⟩
noncomputable def impl_DaysAlike.sp : CSpec := mkSpec impl_DaysAlike.g T impl_DaysAlike.i
theorem impl_DaysAlike.ok : SpecOk Tryz.prog I 6 impl_DaysAlike.sp := mkSpec_ok hmix hI impl_DaysAlike.gok tok impl_DaysAlike.i Tryz.func6 (by kernel_rfl) (by kernel_rfl) (by kernel_rfl) (by kernel_rfl)
noncomputable def impl_DaysAlike.f (x0 : Int × Int) (x1 : Int × Int) (x2 : Int) : Option (Int × Bool) := run impl_DaysAlike.g T impl_DaysAlike.i [.v (.pair (.int .i64) (.int .i64)) x0, .v (.pair (.int .i64) (.int .i64)) x1, .v (.int .i64) x2]
noncomputable def impl_DaysAlike.j0 (x2 : Int) (x35 : Bool) (xb3_0 : Int) (xb3_1 : Int) (xb4_0 : Int) (xb4_1 : Int) : Option (Int × Bool) := runJ impl_DaysAlike.g T impl_DaysAlike.i [true, false, true] [(2, .val (.int .i64) x2), (3, .ptr 3 0), (4, .ptr 4 0), (35, .val .bool x35)] [(3, [⟨(.int .i64), xb3_0⟩, ⟨(.int .i64), xb3_1⟩]), (4, [⟨(.int .i64), xb4_0⟩, ⟨(.int .i64), xb4_1⟩])]
noncomputable def impl_DaysAlike.l0 (x2 : Int) (x8 : Int) (x36 : Int) (xb3_0 : Int) (xb3_1 : Int) (xb4_0 : Int) (xb4_1 : Int) : Option (Int × Bool) := runAt impl_DaysAlike.g T impl_DaysAlike.i [true, true, true, false, true, false] [(2, .val (.int .i64) x2), (3, .ptr 3 0), (4, .ptr 4 0), (8, .val (.int .i64) x8), (36, .val (.int .i64) x36)] [(3, [⟨(.int .i64), xb3_0⟩, ⟨(.int .i64), xb3_1⟩]), (4, [⟨(.int .i64), xb4_0⟩, ⟨(.int .i64), xb4_1⟩])]
theorem impl_DaysAlike.f.eq (x0 : Int × Int) (x1 : Int × Int) (x2 : Int) : impl_DaysAlike.f x0 x1 x2 =
  (impl_IsDate.f (x0.1, x0.2)).bind fun y1 =>
  if (!y1) = true then
    impl_DaysAlike.j0 x2 true x0.1 x0.2 x1.1 x1.2
  else
    (impl_IsDate.f (x1.1, x1.2)).bind fun y9 =>
    if (if false = true then true else !y9) = true then
      impl_DaysAlike.j0 x2 true x0.1 x0.2 x1.1 x1.2
    else
      (impl_between.f x2 0 3000).bind fun y11 =>
      if (if false = true then true else !y11) = true then
        impl_DaysAlike.j0 x2 true x0.1 x0.2 x1.1 x1.2
      else
        if (if false = true then true else (decide (x0.1 ≥ x2))) = true then
          impl_DaysAlike.j0 x2 true x0.1 x0.2 x1.1 x1.2
        else
          impl_DaysAlike.j0 x2 (if false = true then true else (decide (x1.1 ≥ x2))) x0.1 x0.2 x1.1 x1.2 := by kernel_rfl
theorem impl_DaysAlike.j0.eq (x2 : Int) (x35 : Bool) (xb3_0 : Int) (xb3_1 : Int) (xb4_0 : Int) (xb4_1 : Int) : impl_DaysAlike.j0 x2 x35 xb3_0 xb3_1 xb4_0 xb4_1 =
  if x35 = true then
    some (0, false)
  else
    impl_DaysAlike.l0 x2 0 0 xb3_0 xb3_1 xb4_0 xb4_1 := (runJ_eq _ _ _ _ _ _).trans (by kernel_rfl)
theorem impl_DaysAlike.l0.eq (x2 : Int) (x8 : Int) (x36 : Int) (xb3_0 : Int) (xb3_1 : Int) (xb4_0 : Int) (xb4_1 : Int) : impl_DaysAlike.l0 x2 x8 x36 xb3_0 xb3_1 xb4_0 xb4_1 =
  if (decide (x36 < 365)) = true then
    let y3 := IntKind.i64.wrap ((IntKind.i64.wrap (x2 * 365)) + x36)
    (impl_Date_age.f (xb3_0, xb3_1) y3).bind fun y4 =>
    (impl_Date_age.f (xb4_0, xb4_1) y3).bind fun y5 =>
    if (y4 == y5) = true then
      impl_DaysAlike.l0 x2 (IntKind.i64.wrap (x8 + 1)) (IntKind.i64.wrap (x36 + 1)) xb3_0 xb3_1 xb4_0 xb4_1
    else
      impl_DaysAlike.l0 x2 x8 (IntKind.i64.wrap (x36 + 1)) xb3_0 xb3_1 xb4_0 xb4_1
  else
    some (x8, true) := (runAt_loop _ _ _ _ _ _).trans (by kernel_rfl)
noncomputable def spec_l1In.g : Gam := []
theorem spec_l1In.gok : GOkI Tryz.prog I spec_l1In.g := GOkI.nil _ _
noncomputable def spec_l1In.i : FI := ⟨Tryz.f47, body Tryz.f47, (.seq .nil (.seq .nil .nil)), [], [], [.res (.tmp 6) (.v .bool)]⟩
noncomputable def spec_l1In.sp : CSpec := mkSpec spec_l1In.g T spec_l1In.i
theorem spec_l1In.ok : SpecOk Tryz.prog I 47 spec_l1In.sp := mkSpec_ok hmix hI spec_l1In.gok tok spec_l1In.i Tryz.func47 (by kernel_rfl) (by kernel_rfl) (by kernel_rfl) (by kernel_rfl)
noncomputable def spec_l1In.f (x0 : Int) (x1 : Int) (x2 : Int) : Option (Bool) := run spec_l1In.g T spec_l1In.i [.v (.int .i64) x0, .v (.int .i64) x1, .v (.int .i64) x2]
theorem spec_l1In.f.eq (x0 : Int) (x1 : Int) (x2 : Int) : spec_l1In.f x0 x1 x2 =
  if (decide (x0 ≥ x1)) = true then
    some (if true = true then (decide (x0 ≤ x2)) else false)
  else
    some false := by kernel_rfl
noncomputable def spec_biDate.g : Gam := [(47, spec_l1In.sp)]
theorem spec_biDate.gok : GOkI Tryz.prog I spec_biDate.g := (GOkI.nil _ _).cons spec_l1In.ok
noncomputable def spec_biDate.i : FI := ⟨Tryz.f46, body Tryz.f46, (.seq .nil (.seq .nil .nil)), [], [], [.res (.tmp 2) (.v .bool)]⟩
noncomputable def spec_biDate.sp : CSpec := mkSpec spec_biDate.g T spec_biDate.i
theorem spec_biDate.ok : SpecOk Tryz.prog I 46 spec_biDate.sp := mkSpec_ok hmix hI spec_biDate.gok tok spec_biDate.i Tryz.func46 (by kernel_rfl) (by kernel_rfl) (by kernel_rfl) (by kernel_rfl)
noncomputable def spec_biDate.f (x0 : Int × Int) : Option (Bool) := run spec_biDate.g T spec_biDate.i [.v (.pair (.int .i64) (.int .i64)) x0]
theorem spec_biDate.f.eq (x0 : Int × Int) : spec_biDate.f x0 =
  (spec_l1In.f x0.1 0 3000).bind fun y1 =>
  if y1 = true then
    (spec_l1In.f x0.2 1 365).bind fun y2 =>
    some (if true = true then y2 else false)
  else
    some false := by kernel_rfl
noncomputable def spec_biAge.g : Gam := []
theorem spec_biAge.gok : GOkI Tryz.prog I spec_biAge.g := GOkI.nil _ _
noncomputable def spec_biAge.i : FI := ⟨Tryz.f48, body Tryz.f48, (.seq .nil (.seq .nil (.seq (.seq .nil (.cond .nil .nil)) (.seq .nil .nil)))), [], [], [.res (.tmp 4) (.v (.int .i64))]⟩
noncomputable def spec_biAge.sp : CSpec := mkSpec spec_biAge.g T spec_biAge.i
theorem spec_biAge.ok : SpecOk Tryz.prog I 48 spec_biAge.sp := mkSpec_ok hmix hI spec_biAge.gok tok spec_biAge.i Tryz.func48 (by kernel_rfl) (by kernel_rfl) (by kernel_rfl) (by kernel_rfl)
noncomputable def spec_biAge.f (x0 : Int × Int) (x1 : Int × Int) : Option (Int) := run spec_biAge.g T spec_biAge.i [.v (.pair (.int .i64) (.int .i64)) x0, .v (.pair (.int .i64) (.int .i64)) x1]
theorem spec_biAge.f.eq (x0 : Int × Int) (x1 : Int × Int) : spec_biAge.f x0 x1 =
  let y1 := IntKind.i64.wrap (x1.1 - x0.1)
  if (decide (x1.2 < x0.2)) = true then
    some (IntKind.i64.wrap (y1 - 1))
  else
    some y1 := by kernel_rfl
noncomputable def spec_DaysAlike.g : Gam := [(46, spec_biDate.sp), (48, spec_biAge.sp), (47, spec_l1In.sp)]
theorem spec_DaysAlike.gok : GOkI Tryz.prog I spec_DaysAlike.g := (((GOkI.nil _ _).cons spec_l1In.ok).cons spec_biAge.ok).cons spec_biDate.ok
noncomputable def spec_DaysAlike.i : FI := ⟨Tryz.f7, body Tryz.f7, (.seq .nil (.seq (.cut [2, 3, 4, 35] [3, 4] .nil (.cond (.seq .nil .nil) .nil)) (.seq .nil (.seq (.seq .nil (.blk (.loop [2, 3, 4, 8, 9] [3, 4] (.seq (.seq .nil (.cond .nil .nil)) (.seq (.blk (.seq .nil (.seq .nil (.cond .nil .nil)))) .nil))))) (.seq .nil .nil))))), [], [], [.res (.tmp 6) (.v (.int .i64)), .res (.tmp 7) (.v .bool)]⟩
noncomputable def spec_DaysAlike.sp : CSpec := mkSpec spec_DaysAlike.g T spec_DaysAlike.i
theorem spec_DaysAlike.ok : SpecOk Tryz.prog I 7 spec_DaysAlike.sp := mkSpec_ok hmix hI spec_DaysAlike.gok tok spec_DaysAlike.i Tryz.func7 (by kernel_rfl) (by kernel_rfl) (by kernel_rfl) (by kernel_rfl)
noncomputable def spec_DaysAlike.f (x0 : Int × Int) (x1 : Int × Int) (x2 : Int) : Option (Int × Bool) := run spec_DaysAlike.g T spec_DaysAlike.i [.v (.pair (.int .i64) (.int .i64)) x0, .v (.pair (.int .i64) (.int .i64)) x1, .v (.int .i64) x2]
noncomputable def spec_DaysAlike.j0 (x2 : Int) (x35 : Bool) (xb3_0 : Int) (xb3_1 : Int) (xb4_0 : Int) (xb4_1 : Int) : Option (Int × Bool) := runJ spec_DaysAlike.g T spec_DaysAlike.i [true, false, true] [(2, .val (.int .i64) x2), (3, .ptr 3 0), (4, .ptr 4 0), (35, .val .bool x35)] [(3, [⟨(.int .i64), xb3_0⟩, ⟨(.int .i64), xb3_1⟩]), (4, [⟨(.int .i64), xb4_0⟩, ⟨(.int .i64), xb4_1⟩])]
noncomputable def spec_DaysAlike.l0 (x2 : Int) (x8 : Int) (x9 : Int) (xb3_0 : Int) (xb3_1 : Int) (xb4_0 : Int) (xb4_1 : Int) : Option (Int × Bool) := runAt spec_DaysAlike.g T spec_DaysAlike.i [true, true, true, false, true, false] [(2, .val (.int .i64) x2), (3, .ptr 3 0), (4, .ptr 4 0), (8, .val (.int .i64) x8), (9, .val (.int .i64) x9)] [(3, [⟨(.int .i64), xb3_0⟩, ⟨(.int .i64), xb3_1⟩]), (4, [⟨(.int .i64), xb4_0⟩, ⟨(.int .i64), xb4_1⟩])]
theorem spec_DaysAlike.f.eq (x0 : Int × Int) (x1 : Int × Int) (x2 : Int) : spec_DaysAlike.f x0 x1 x2 =
  (spec_biDate.f (x0.1, x0.2)).bind fun y1 =>
  if (!y1) = true then
    spec_DaysAlike.j0 x2 true x0.1 x0.2 x1.1 x1.2
  else
    (spec_biDate.f (x1.1, x1.2)).bind fun y7 =>
    if (if false = true then true else !y7) = true then
      spec_DaysAlike.j0 x2 true x0.1 x0.2 x1.1 x1.2
    else
      (spec_l1In.f x2 0 3000).bind fun y9 =>
      if (if false = true then true else !y9) = true then
        spec_DaysAlike.j0 x2 true x0.1 x0.2 x1.1 x1.2
      else
        if (if false = true then true else (decide (x0.1 ≥ x2))) = true then
          spec_DaysAlike.j0 x2 true x0.1 x0.2 x1.1 x1.2
        else
          spec_DaysAlike.j0 x2 (if false = true then true else (decide (x1.1 ≥ x2))) x0.1 x0.2 x1.1 x1.2 := by kernel_rfl
theorem spec_DaysAlike.j0.eq (x2 : Int) (x35 : Bool) (xb3_0 : Int) (xb3_1 : Int) (xb4_0 : Int) (xb4_1 : Int) : spec_DaysAlike.j0 x2 x35 xb3_0 xb3_1 xb4_0 xb4_1 =
  if x35 = true then
    some (0, false)
  else
    spec_DaysAlike.l0 x2 0 1 xb3_0 xb3_1 xb4_0 xb4_1 := (runJ_eq _ _ _ _ _ _).trans (by kernel_rfl)
theorem spec_DaysAlike.l0.eq (x2 : Int) (x8 : Int) (x9 : Int) (xb3_0 : Int) (xb3_1 : Int) (xb4_0 : Int) (xb4_1 : Int) : spec_DaysAlike.l0 x2 x8 x9 xb3_0 xb3_1 xb4_0 xb4_1 =
  if (decide (x9 ≤ 365)) = true then
    (spec_biAge.f (xb3_0, xb3_1) (x2, x9)).bind fun y2 =>
    (spec_biAge.f (xb4_0, xb4_1) (x2, x9)).bind fun y3 =>
    if (y2 == y3) = true then
      spec_DaysAlike.l0 x2 (IntKind.i64.wrap (x8 + 1)) (IntKind.i64.wrap (x9 + 1)) xb3_0 xb3_1 xb4_0 xb4_1
    else
      spec_DaysAlike.l0 x2 x8 (IntKind.i64.wrap (x9 + 1)) xb3_0 xb3_1 xb4_0 xb4_1
  else
    some (x8, true) := (runAt_loop _ _ _ _ _ _).trans (by kernel_rfl)
noncomputable def spec_l1Cur_sureBirths.g : Gam := [(79, spec_l1Cur_pick.sp), (41, spec_l1Cur_sureDate.sp)]
theorem spec_l1Cur_sureBirths.gok : GOkI Tryz.prog I spec_l1Cur_sureBirths.g := ((GOkI.nil _ _).cons spec_l1Cur_sureDate.ok).cons spec_l1Cur_pick.ok
noncomputable def spec_l1Cur_sureBirths.i : FI := ⟨Tryz.f75, body Tryz.f75, (.seq .nil (.seq .nil (.seq (.seq .nil (.blk (.loop [0, 3, 4] [1000000] (.seq (.seq .nil (.cond .nil .nil)) (.seq (.blk .nil) .nil))))) (.seq .nil .nil)))), [], [1000000], [.res (.tmp 2) (.own 25 (.pair (.int .i64) (.int .i64))), .box 1000000 0 (.slice (.int .u8)), .box 1000000 1 (.int .i64), .box 1000000 2 (.int .u64)]⟩
noncomputable def spec_l1Cur_sureBirths.sp : CSpec := mkSpec spec_l1Cur_sureBirths.g T spec_l1Cur_sureBirths.i
theorem spec_l1Cur_sureBirths.ok : SpecOk Tryz.prog I 75 spec_l1Cur_sureBirths.sp := mkSpec_ok hmix hI spec_l1Cur_sureBirths.gok tok spec_l1Cur_sureBirths.i Tryz.func75 (by kernel_rfl) (by kernel_rfl) (by kernel_rfl) (by kernel_rfl)
noncomputable def spec_l1Cur_sureBirths.f (x0_0 : List Int) (x0_1 : Int) (x0_2 : Int) : Option ((List (Int × Int)) × (List Int) × Int × Int) := run spec_l1Cur_sureBirths.g T spec_l1Cur_sureBirths.i [.bx [⟨(.slice (.int .u8)), x0_0⟩, ⟨(.int .i64), x0_1⟩, ⟨(.int .u64), x0_2⟩]]
noncomputable def spec_l1Cur_sureBirths.l0 (x3 : List (Int × Int)) (x4 : Int) (x0_0 : List Int) (x0_1 : Int) (x0_2 : Int) : Option ((List (Int × Int)) × (List Int) × Int × Int) := runAt spec_l1Cur_sureBirths.g T spec_l1Cur_sureBirths.i [true, true, false, true, false] [(0, .ptr 1000000 0), (3, .own 25 (.pair (.int .i64) (.int .i64)) x3), (4, .val (.int .i64) x4)] [(1000000, [⟨(.slice (.int .u8)), x0_0⟩, ⟨(.int .i64), x0_1⟩, ⟨(.int .u64), x0_2⟩])]
theorem spec_l1Cur_sureBirths.f.eq (x0_0 : List Int) (x0_1 : Int) (x0_2 : Int) : spec_l1Cur_sureBirths.f x0_0 x0_1 x0_2 =
  (spec_l1Cur_pick.f x0_0 x0_1 x0_2 4).bind fun y1 =>
  spec_l1Cur_sureBirths.l0 [] (IntKind.i64.wrap (1 + y1.1)) y1.2.1 y1.2.2.1 y1.2.2.2 := by kernel_rfl
theorem spec_l1Cur_sureBirths.l0.eq (x3 : List (Int × Int)) (x4 : Int) (x0_0 : List Int) (x0_1 : Int) (x0_2 : Int) : spec_l1Cur_sureBirths.l0 x3 x4 x0_0 x0_1 x0_2 =
  if (decide (x4 > 0)) = true then
    (spec_l1Cur_sureDate.f x0_0 x0_1 x0_2).bind fun y2 =>
    (catI (appMax 16) x3 [y2.1]).bind fun y3 =>
    spec_l1Cur_sureBirths.l0 y3 (IntKind.i64.wrap (x4 - 1)) y2.2.1 y2.2.2.1 y2.2.2.2
  else
    some (x3, x0_0, x0_1, x0_2) := (runAt_loop _ _ _ _ _ _).trans (by kernel_rfl)
noncomputable def spec_l1Cur_date.g : Gam := [(42, spec_l1Cur_among.sp), (79, spec_l1Cur_pick.sp)]
theorem spec_l1Cur_date.gok : GOkI Tryz.prog I spec_l1Cur_date.g := ((GOkI.nil _ _).cons spec_l1Cur_pick.ok).cons spec_l1Cur_among.ok
noncomputable def spec_l1Cur_date.i : FI := ⟨Tryz.f74, body Tryz.f74, (.seq .nil (.seq .nil (.seq .nil (.seq (.seq .nil (.blk (.seq .nil (.cond .nil (.seq .nil (.cond .nil .nil)))))) (.seq .nil .nil))))), [], [1000000], [.res (.cell 2 25) (.v (.pair (.int .i64) (.int .i64))), .box 1000000 0 (.slice (.int .u8)), .box 1000000 1 (.int .i64), .box 1000000 2 (.int .u64)]⟩
noncomputable def spec_l1Cur_date.sp : CSpec := mkSpec spec_l1Cur_date.g T spec_l1Cur_date.i
theorem spec_l1Cur_date.ok : SpecOk Tryz.prog I 74 spec_l1Cur_date.sp := mkSpec_ok hmix hI spec_l1Cur_date.gok tok spec_l1Cur_date.i Tryz.func74 (by kernel_rfl) (by kernel_rfl) (by kernel_rfl) (by kernel_rfl)
noncomputable def spec_l1Cur_date.f (x0_0 : List Int) (x0_1 : Int) (x0_2 : Int) : Option ((Int × Int) × (List Int) × Int × Int) := run spec_l1Cur_date.g T spec_l1Cur_date.i [.bx [⟨(.slice (.int .u8)), x0_0⟩, ⟨(.int .i64), x0_1⟩, ⟨(.int .u64), x0_2⟩]]
theorem spec_l1Cur_date.f.eq (x0_0 : List Int) (x0_1 : Int) (x0_2 : Int) : spec_l1Cur_date.f x0_0 x0_1 x0_2 =
  (spec_l1Cur_among.f x0_0 x0_1 x0_2 [1999, 2000, 2001, 2010, 2000, 1990, 1992, 3000]).bind fun y1 =>
  (spec_l1Cur_among.f y1.2.1 y1.2.2.1 y1.2.2.2 [1, 49, 50, 60, 99, 100, 101, 200, 365]).bind fun y2 =>
  (spec_l1Cur_pick.f y2.2.1 y2.2.2.1 y2.2.2.2 18).bind fun y3 =>
  if (y3.1 == 0) = true then
    (spec_l1Cur_among.f y3.2.1 y3.2.2.1 y3.2.2.2 [0, (-1), 366, 4611686018427387904]).bind fun y5 =>
    some ((y1.1, y5.1), y5.2.1, y5.2.2.1, y5.2.2.2)
  else
    if (y3.1 == 1) = true then
      (spec_l1Cur_among.f y3.2.1 y3.2.2.1 y3.2.2.2 [(-1), 0, 3001, 4611686018427387904]).bind fun y7 =>
      some ((y7.1, y2.1), y7.2.1, y7.2.2.1, y7.2.2.2)
    else
      some ((y1.1, y2.1), y3.2.1, y3.2.2.1, y3.2.2.2) := by kernel_rfl
noncomputable def spec_l1Cur_births.g : Gam := [(75, spec_l1Cur_sureBirths.sp), (79, spec_l1Cur_pick.sp), (74, spec_l1Cur_date.sp), (41, spec_l1Cur_sureDate.sp)]
theorem spec_l1Cur_births.gok : GOkI Tryz.prog I spec_l1Cur_births.g := ((((GOkI.nil _ _).cons spec_l1Cur_sureDate.ok).cons spec_l1Cur_date.ok).cons spec_l1Cur_pick.ok).cons spec_l1Cur_sureBirths.ok
noncomputable def spec_l1Cur_births.i : FI := ⟨Tryz.f49, body Tryz.f49, (.seq .nil (.seq .nil (.seq (.seq .nil (.blk (.seq .nil (.cond (.seq .nil .nil) (.seq .nil (.cond .nil (.seq .nil (.cond (.blk (.loop [0, 3] [1000000] (.seq (.seq .nil (.cond .nil .nil)) (.blk .nil)))) .nil)))))))) (.seq .nil .nil)))), [], [1000000], [.res (.tmp 2) (.own 25 (.pair (.int .i64) (.int .i64))), .box 1000000 0 (.slice (.int .u8)), .box 1000000 1 (.int .i64), .box 1000000 2 (.int .u64)]⟩
noncomputable def spec_l1Cur_births.sp : CSpec := mkSpec spec_l1Cur_births.g T spec_l1Cur_births.i
theorem spec_l1Cur_births.ok : SpecOk Tryz.prog I 49 spec_l1Cur_births.sp := mkSpec_ok hmix hI spec_l1Cur_births.gok tok spec_l1Cur_births.i Tryz.func49 (by kernel_rfl) (by kernel_rfl) (by kernel_rfl) (by kernel_rfl)
noncomputable def spec_l1Cur_births.f (x0_0 : List Int) (x0_1 : Int) (x0_2 : Int) : Option ((List (Int × Int)) × (List Int) × Int × Int) := run spec_l1Cur_births.g T spec_l1Cur_births.i [.bx [⟨(.slice (.int .u8)), x0_0⟩, ⟨(.int .i64), x0_1⟩, ⟨(.int .u64), x0_2⟩]]
noncomputable def spec_l1Cur_births.l0 (x3 : List (Int × Int)) (x0_0 : List Int) (x0_1 : Int) (x0_2 : Int) : Option ((List (Int × Int)) × (List Int) × Int × Int) := runAt spec_l1Cur_births.g T spec_l1Cur_births.i [true, true, false, true, false, true, true, true, true, true, false, false] [(0, .ptr 1000000 0), (3, .own 25 (.pair (.int .i64) (.int .i64)) x3)] [(1000000, [⟨(.slice (.int .u8)), x0_0⟩, ⟨(.int .i64), x0_1⟩, ⟨(.int .u64), x0_2⟩])]
theorem spec_l1Cur_births.f.eq (x0_0 : List Int) (x0_1 : Int) (x0_2 : Int) : spec_l1Cur_births.f x0_0 x0_1 x0_2 =
  (spec_l1Cur_sureBirths.f x0_0 x0_1 x0_2).bind fun y1 =>
  (spec_l1Cur_pick.f y1.2.1 y1.2.2.1 y1.2.2.2 14).bind fun y2 =>
  if (y2.1 == 0) = true then
    some ([], y2.2.1, y2.2.2.1, y2.2.2.2)
  else
    if (y2.1 == 1) = true then
      (spec_l1Cur_date.f y2.2.1 y2.2.2.1 y2.2.2.2).bind fun y5 =>
      (rdI y1.1 0).bind fun _ =>
      some (y1.1.set 0 y5.1, y5.2.1, y5.2.2.1, y5.2.2.2)
    else
      if (y2.1 == 2) = true then
        spec_l1Cur_births.l0 y1.1 y2.2.1 y2.2.2.1 y2.2.2.2
      else
        some (y1.1, y2.2.1, y2.2.2.1, y2.2.2.2) := by kernel_rfl
theorem spec_l1Cur_births.l0.eq (x3 : List (Int × Int)) (x0_0 : List Int) (x0_1 : Int) (x0_2 : Int) : spec_l1Cur_births.l0 x3 x0_0 x0_1 x0_2 =
  (spec_l1Cur_pick.f x0_0 x0_1 x0_2 2).bind fun y2 =>
  if (decide ((x3.length : Int) < (IntKind.i64.wrap (8 + y2.1)))) = true then
    (spec_l1Cur_sureDate.f y2.2.1 y2.2.2.1 y2.2.2.2).bind fun y5 =>
    (catI (appMax 16) x3 [y5.1]).bind fun y6 =>
    spec_l1Cur_births.l0 y6 y5.2.1 y5.2.2.1 y5.2.2.2
  else
    some (x3, y2.2.1, y2.2.2.1, y2.2.2.2) := (runAt_loop _ _ _ _ _ _).trans (by kernel_rfl)
noncomputable def spec_DrawFirstSumOn.g : Gam := [(49, spec_l1Cur_births.sp), (42, spec_l1Cur_among.sp)]
theorem spec_DrawFirstSumOn.gok : GOkI Tryz.prog I spec_DrawFirstSumOn.g := ((GOkI.nil _ _).cons spec_l1Cur_among.ok).cons spec_l1Cur_births.ok
noncomputable def spec_DrawFirstSumOn.i : FI := ⟨Tryz.f8, body Tryz.f8, (.seq .nil (.seq .nil (.seq .nil (.seq .nil .nil)))), [], [], [.res (.tmp 2) (.own 25 (.pair (.int .i64) (.int .i64))), .res (.tmp 3) (.v (.int .i64))]⟩
noncomputable def spec_DrawFirstSumOn.sp : CSpec := mkSpec spec_DrawFirstSumOn.g T spec_DrawFirstSumOn.i
theorem spec_DrawFirstSumOn.ok : SpecOk Tryz.prog I 8 spec_DrawFirstSumOn.sp := mkSpec_ok hmix hI spec_DrawFirstSumOn.gok tok spec_DrawFirstSumOn.i Tryz.func8 (by kernel_rfl) (by kernel_rfl) (by kernel_rfl) (by kernel_rfl)
noncomputable def spec_DrawFirstSumOn.f (x0 : List Int) : Option ((List (Int × Int)) × Int) := run spec_DrawFirstSumOn.g T spec_DrawFirstSumOn.i [.v (.slice (.int .u8)) x0]
theorem spec_DrawFirstSumOn.f.eq (x0 : List Int) : spec_DrawFirstSumOn.f x0 =
  (spec_l1Cur_births.f x0 0 0).bind fun y1 =>
  (spec_l1Cur_among.f y1.2.1 y1.2.2.1 y1.2.2.2 [0, 1, 10, 25, 40, 100, 10000, 10001, (-1)]).bind fun y2 =>
  some (y1.1, y2.1) := by kernel_rfl
noncomputable def impl_AreBirthDates_1.g : Gam := [(43, impl_IsDate.sp)]
theorem impl_AreBirthDates_1.gok : GOkI Tryz.prog I impl_AreBirthDates_1.g := (GOkI.nil _ _).cons impl_IsDate.ok
noncomputable def impl_AreBirthDates_1.i : FI := ⟨Tryz.f66, body Tryz.f66, (.seq .nil (.seq .nil .nil)), [], [], [.res (.tmp 2) (.v .bool)]⟩
noncomputable def impl_AreBirthDates_1.sp : CSpec := mkSpec impl_AreBirthDates_1.g T impl_AreBirthDates_1.i
theorem impl_AreBirthDates_1.ok : SpecOk Tryz.prog I 66 impl_AreBirthDates_1.sp := mkSpec_ok hmix hI impl_AreBirthDates_1.gok tok impl_AreBirthDates_1.i Tryz.func66 (by kernel_rfl) (by kernel_rfl) (by kernel_rfl) (by kernel_rfl)
noncomputable def impl_AreBirthDates_1.f (x0 : Int × Int) : Option (Bool) := run impl_AreBirthDates_1.g T impl_AreBirthDates_1.i [.v (.pair (.int .i64) (.int .i64)) x0]
theorem impl_AreBirthDates_1.f.eq (x0 : Int × Int) : impl_AreBirthDates_1.f x0 =
  (impl_IsDate.f (x0.1, x0.2)).bind fun y1 =>
  some (!y1) := by kernel_rfl
noncomputable def slices_IndexFunc.g : Gam := [(66, impl_AreBirthDates_1.sp)]
theorem slices_IndexFunc.gok : GOkI Tryz.prog I slices_IndexFunc.g := (GOkI.nil _ _).cons impl_AreBirthDates_1.ok
noncomputable def slices_IndexFunc.i : FI := ⟨Tryz.f86, body Tryz.f86, (.seq .nil (.seq (.seq .nil (.blk (.loop [0, 1, 7, 8] [] (.seq .nil (.seq (.cond .nil .nil) (.seq (.blk (.seq .nil (.seq .nil (.cond (.seq .nil .nil) .nil)))) .nil)))))) (.seq .nil .nil))), [], [], [.res (.tmp 4) (.v (.int .i64))]⟩
noncomputable def slices_IndexFunc.sp : CSpec := mkSpec slices_IndexFunc.g T slices_IndexFunc.i
theorem slices_IndexFunc.ok : SpecOk Tryz.prog I 86 slices_IndexFunc.sp := mkSpec_ok hmix hI slices_IndexFunc.gok tok slices_IndexFunc.i Tryz.func86 (by kernel_rfl) (by kernel_rfl) (by kernel_rfl) (by kernel_rfl)
noncomputable def slices_IndexFunc.f (x0 : List (Int × Int)) : Option (Int) := run slices_IndexFunc.g T slices_IndexFunc.i [.v (.slice (.pair (.int .i64) (.int .i64))) x0, .clo (closure impl_AreBirthDates_1.sp [])]
noncomputable def slices_IndexFunc.l0 (x0 : List (Int × Int)) (x7 : Int) (x8 : Int) : Option (Int) := runAt slices_IndexFunc.g T slices_IndexFunc.i [true, false, true, false] [(0, .val (.slice (.pair (.int .i64) (.int .i64))) x0), (1, .clo (closure impl_AreBirthDates_1.sp [])), (7, .val (.int .i64) x7), (8, .val (.int .i64) x8)] []
theorem slices_IndexFunc.f.eq (x0 : List (Int × Int)) : slices_IndexFunc.f x0 =
  slices_IndexFunc.l0 x0 (x0.length : Int) 0 := by kernel_rfl
theorem slices_IndexFunc.l0.eq (x0 : List (Int × Int)) (x7 : Int) (x8 : Int) : slices_IndexFunc.l0 x0 x7 x8 =
  if (decide (x8 < x7)) = true then
    (rdI x0 x8).bind fun y2 =>
    ((impl_AreBirthDates_1.f y2).bind some).bind fun y3 =>
    if y3 = true then
      some x8
    else
      slices_IndexFunc.l0 x0 x7 (IntKind.i64.wrap (x8 + 1))
  else
    some (-1) := (runAt_loop _ _ _ _ _ _).trans (by kernel_rfl)
noncomputable def slices_ContainsFunc.g : Gam := [(86, slices_IndexFunc.sp)]
theorem slices_ContainsFunc.gok : GOkI Tryz.prog I slices_ContainsFunc.g := (GOkI.nil _ _).cons slices_IndexFunc.ok
noncomputable def slices_ContainsFunc.i : FI := ⟨Tryz.f65, body Tryz.f65, (.seq .nil (.seq .nil .nil)), [], [], [.res (.tmp 4) (.v .bool)]⟩
noncomputable def slices_ContainsFunc.sp : CSpec := mkSpec slices_ContainsFunc.g T slices_ContainsFunc.i
theorem slices_ContainsFunc.ok : SpecOk Tryz.prog I 65 slices_ContainsFunc.sp := mkSpec_ok hmix hI slices_ContainsFunc.gok tok slices_ContainsFunc.i Tryz.func65 (by kernel_rfl) (by kernel_rfl) (by kernel_rfl) (by kernel_rfl)
noncomputable def slices_ContainsFunc.f (x0 : List (Int × Int)) : Option (Bool) := run slices_ContainsFunc.g T slices_ContainsFunc.i [.v (.slice (.pair (.int .i64) (.int .i64))) x0, .clo (closure impl_AreBirthDates_1.sp [])]
theorem slices_ContainsFunc.f.eq (x0 : List (Int × Int)) : slices_ContainsFunc.f x0 =
  (slices_IndexFunc.f x0).bind fun y1 =>
  some (decide (y1 ≥ 0)) := by kernel_rfl
noncomputable def impl_AreBirthDates.g : Gam := [(44, impl_between.sp), (65, slices_ContainsFunc.sp), (66, impl_AreBirthDates_1.sp)]
theorem impl_AreBirthDates.gok : GOkI Tryz.prog I impl_AreBirthDates.g := (((GOkI.nil _ _).cons impl_AreBirthDates_1.ok).cons slices_ContainsFunc.ok).cons impl_between.ok
noncomputable def impl_AreBirthDates.i : FI := ⟨Tryz.f19, body Tryz.f19, (.seq .nil (.seq .nil .nil)), [], [], [.res (.tmp 2) (.v .bool)]⟩
noncomputable def impl_AreBirthDates.sp : CSpec := mkSpec impl_AreBirthDates.g T impl_AreBirthDates.i
theorem impl_AreBirthDates.ok : SpecOk Tryz.prog I 19 impl_AreBirthDates.sp := mkSpec_ok hmix hI impl_AreBirthDates.gok tok impl_AreBirthDates.i Tryz.func19 (by kernel_rfl) (by kernel_rfl) (by kernel_rfl) (by kernel_rfl)
noncomputable def impl_AreBirthDates.f (x0 : List (Int × Int)) : Option (Bool) := run impl_AreBirthDates.g T impl_AreBirthDates.i [.v (.slice (.pair (.int .i64) (.int .i64))) x0]
theorem impl_AreBirthDates.f.eq (x0 : List (Int × Int)) : impl_AreBirthDates.f x0 =
  (impl_between.f (x0.length : Int) 1 8).bind fun y2 =>
  if y2 = true then
    (slices_ContainsFunc.f x0).bind fun y3 =>
    some (if true = true then !y3 else false)
  else
    some false := by kernel_rfl
noncomputable def impl_lastBirth.g : Gam := [(60, impl_Date_index.sp)]
theorem impl_lastBirth.gok : GOkI Tryz.prog I impl_lastBirth.g := (GOkI.nil _ _).cons impl_Date_index.ok
noncomputable def impl_lastBirth.i : FI := ⟨Tryz.f50, body Tryz.f50, (.seq .nil (.seq .nil (.seq (.seq .nil (.blk (.loop [3, 6, 7, 8] [] (.seq .nil (.seq (.cond .nil .nil) (.seq (.blk (.seq .nil .nil)) .nil)))))) (.seq .nil .nil)))), [], [], [.res (.tmp 2) (.v (.int .i64))]⟩
noncomputable def impl_lastBirth.sp : CSpec := mkSpec impl_lastBirth.g T impl_lastBirth.i
theorem impl_lastBirth.ok : SpecOk Tryz.prog I 50 impl_lastBirth.sp := mkSpec_ok hmix hI impl_lastBirth.gok tok impl_lastBirth.i Tryz.func50 (by kernel_rfl) (by kernel_rfl) (by kernel_rfl) (by kernel_rfl)
noncomputable def impl_lastBirth.f (x0 : List (Int × Int)) : Option (Int) := run impl_lastBirth.g T impl_lastBirth.i [.v (.slice (.pair (.int .i64) (.int .i64))) x0]
noncomputable def impl_lastBirth.l0 (x3 : Int) (x6 : List (Int × Int)) (x7 : Int) (x8 : Int) : Option (Int) := runAt impl_lastBirth.g T impl_lastBirth.i [true, true, false, true, false] [(3, .val (.int .i64) x3), (6, .val (.slice (.pair (.int .i64) (.int .i64))) x6), (7, .val (.int .i64) x7), (8, .val (.int .i64) x8)] []
theorem impl_lastBirth.f.eq (x0 : List (Int × Int)) : impl_lastBirth.f x0 =
  impl_lastBirth.l0 0 x0 (x0.length : Int) 0 := by kernel_rfl
theorem impl_lastBirth.l0.eq (x3 : Int) (x6 : List (Int × Int)) (x7 : Int) (x8 : Int) : impl_lastBirth.l0 x3 x6 x7 x8 =
  if (decide (x8 < x7)) = true then
    (rdI x6 x8).bind fun y2 =>
    (impl_Date_index.f (y2.1, y2.2)).bind fun y3 =>
    impl_lastBirth.l0 (mx2 x3 y3) x6 x7 (IntKind.i64.wrap (x8 + 1))
  else
    some x3 := (runAt_loop _ _ _ _ _ _).trans (by kernel_rfl)
noncomputable def impl_agesOn.g : Gam := [(45, impl_Date_age.sp)]
theorem impl_agesOn.gok : GOkI Tryz.prog I impl_agesOn.g := (GOkI.nil _ _).cons impl_Date_age.ok
noncomputable def impl_agesOn.i : FI := ⟨Tryz.f52, body Tryz.f52, (.seq .nil (.seq .nil (.seq (.seq .nil (.blk (.loop [1, 5, 9, 10, 11] [] (.seq .nil (.seq (.cond .nil .nil) (.seq (.blk (.seq .nil .nil)) .nil)))))) (.seq .nil .nil)))), [], [], [.res (.tmp 4) (.own 3 (.int .i64))]⟩
noncomputable def impl_agesOn.sp : CSpec := mkSpec impl_agesOn.g T impl_agesOn.i
theorem impl_agesOn.ok : SpecOk Tryz.prog I 52 impl_agesOn.sp := mkSpec_ok hmix hI impl_agesOn.gok tok impl_agesOn.i Tryz.func52 (by kernel_rfl) (by kernel_rfl) (by kernel_rfl) (by kernel_rfl)
noncomputable def impl_agesOn.f (x0 : List (Int × Int)) (x1 : Int) : Option (List Int) := run impl_agesOn.g T impl_agesOn.i [.v (.slice (.pair (.int .i64) (.int .i64))) x0, .v (.int .i64) x1]
noncomputable def impl_agesOn.l0 (x1 : Int) (x5 : List Int) (x9 : List (Int × Int)) (x10 : Int) (x11 : Int) : Option (List Int) := runAt impl_agesOn.g T impl_agesOn.i [true, true, false, true, false] [(1, .val (.int .i64) x1), (5, .own 3 (.int .i64) x5), (9, .val (.slice (.pair (.int .i64) (.int .i64))) x9), (10, .val (.int .i64) x10), (11, .val (.int .i64) x11)] []
theorem impl_agesOn.f.eq (x0 : List (Int × Int)) (x1 : Int) : impl_agesOn.f x0 x1 =
  impl_agesOn.l0 x1 [] x0 (x0.length : Int) 0 := by kernel_rfl
theorem impl_agesOn.l0.eq (x1 : Int) (x5 : List Int) (x9 : List (Int × Int)) (x10 : Int) (x11 : Int) : impl_agesOn.l0 x1 x5 x9 x10 x11 =
  if (decide (x11 < x10)) = true then
    (rdI x9 x11).bind fun y2 =>
    (impl_Date_age.f (y2.1, y2.2) x1).bind fun y3 =>
    (catI (appMax 8) x5 [y3]).bind fun y4 =>
    impl_agesOn.l0 x1 y4 x9 x10 (IntKind.i64.wrap (x11 + 1))
  else
    some x5 := (runAt_loop _ _ _ _ _ _).trans (by kernel_rfl)
noncomputable def impl_total.g : Gam := []
theorem impl_total.gok : GOkI Tryz.prog I impl_total.g := GOkI.nil _ _
noncomputable def impl_total.i : FI := ⟨Tryz.f51, body Tryz.f51, (.seq .nil (.seq .nil (.seq (.seq .nil (.blk (.loop [3, 6, 7, 8] [] (.seq .nil (.seq (.cond .nil .nil) (.seq (.blk (.seq .nil .nil)) .nil)))))) (.seq .nil .nil)))), [], [], [.res (.tmp 2) (.v (.int .i64))]⟩
noncomputable def impl_total.sp : CSpec := mkSpec impl_total.g T impl_total.i
theorem impl_total.ok : SpecOk Tryz.prog I 51 impl_total.sp := mkSpec_ok hmix hI impl_total.gok tok impl_total.i Tryz.func51 (by kernel_rfl) (by kernel_rfl) (by kernel_rfl) (by kernel_rfl)
noncomputable def impl_total.f (x0 : List Int) : Option (Int) := run impl_total.g T impl_total.i [.v (.slice (.int .i64)) x0]
noncomputable def impl_total.l0 (x3 : Int) (x6 : List Int) (x7 : Int) (x8 : Int) : Option (Int) := runAt impl_total.g T impl_total.i [true, true, false, true, false] [(3, .val (.int .i64) x3), (6, .val (.slice (.int .i64)) x6), (7, .val (.int .i64) x7), (8, .val (.int .i64) x8)] []
theorem impl_total.f.eq (x0 : List Int) : impl_total.f x0 =
  impl_total.l0 0 x0 (x0.length : Int) 0 := by kernel_rfl
theorem impl_total.l0.eq (x3 : Int) (x6 : List Int) (x7 : Int) (x8 : Int) : impl_total.l0 x3 x6 x7 x8 =
  if (decide (x8 < x7)) = true then
    (rdI x6 x8).bind fun y2 =>
    impl_total.l0 (IntKind.i64.wrap (x3 + y2)) x6 x7 (IntKind.i64.wrap (x8 + 1))
  else
    some x3 := (runAt_loop _ _ _ _ _ _).trans (by kernel_rfl)
noncomputable def impl_dateAt.g : Gam := [(44, impl_between.sp)]
theorem impl_dateAt.gok : GOkI Tryz.prog I impl_dateAt.g := (GOkI.nil _ _).cons impl_between.ok
noncomputable def impl_dateAt.i : FI := ⟨Tryz.f53, body Tryz.f53, (.seq .nil (.seq (.seq .nil (.cond (.seq .nil .nil) .nil)) (.seq .nil .nil))), [], [], [.res (.cell 2 25) (.v (.pair (.int .i64) (.int .i64))), .res (.tmp 3) (.v .bool)]⟩
noncomputable def impl_dateAt.sp : CSpec := mkSpec impl_dateAt.g T impl_dateAt.i
theorem impl_dateAt.ok : SpecOk Tryz.prog I 53 impl_dateAt.sp := mkSpec_ok hmix hI impl_dateAt.gok tok impl_dateAt.i Tryz.func53 (by kernel_rfl) (by kernel_rfl) (by kernel_rfl) (by kernel_rfl)
noncomputable def impl_dateAt.f (x0 : Int) : Option ((Int × Int) × Bool) := run impl_dateAt.g T impl_dateAt.i [.v (.int .i64) x0]
theorem impl_dateAt.f.eq (x0 : Int) : impl_dateAt.f x0 =
  (impl_between.f x0 0 1095364).bind fun y1 =>
  if (!y1) = true then
    some ((0, 0), false)
  else
    some (((IntKind.i64.wrap (x0.tdiv 365)), (IntKind.i64.wrap ((x0.tmod 365) + 1))), true) := by kernel_rfl
noncomputable def impl_FirstSumOn.g : Gam := [(19, impl_AreBirthDates.sp), (50, impl_lastBirth.sp), (52, impl_agesOn.sp), (51, impl_total.sp), (53, impl_dateAt.sp), (44, impl_between.sp)]
theorem impl_FirstSumOn.gok : GOkI Tryz.prog I impl_FirstSumOn.g := ((((((GOkI.nil _ _).cons impl_between.ok).cons impl_dateAt.ok).cons impl_total.ok).cons impl_agesOn.ok).cons impl_lastBirth.ok).cons impl_AreBirthDates.ok
noncomputable def impl_FirstSumOn.i : FI := ⟨Tryz.f9, body Tryz.f9, (.seq .nil (.seq (.cut [0, 1, 4, 16] [4] .nil (.cond (.seq .nil .nil) .nil)) (.seq .nil (.seq (.blk (.loop [0, 1, 4, 6, 7] [4] (.seq (.seq .nil (.cond .nil .nil)) (.blk (.seq .nil (.seq .nil (.cond .nil .nil))))))) (.seq .nil .nil))))), [], [], [.res (.cell 4 25) (.v (.pair (.int .i64) (.int .i64))), .res (.tmp 5) (.v .bool)]⟩
noncomputable def impl_FirstSumOn.sp : CSpec := mkSpec impl_FirstSumOn.g T impl_FirstSumOn.i
theorem impl_FirstSumOn.ok : SpecOk Tryz.prog I 9 impl_FirstSumOn.sp := mkSpec_ok hmix hI impl_FirstSumOn.gok tok impl_FirstSumOn.i Tryz.func9 (by kernel_rfl) (by kernel_rfl) (by kernel_rfl) (by kernel_rfl)
noncomputable def impl_FirstSumOn.f (x0 : List (Int × Int)) (x1 : Int) : Option ((Int × Int) × Bool) := run impl_FirstSumOn.g T impl_FirstSumOn.i [.v (.slice (.pair (.int .i64) (.int .i64))) x0, .v (.int .i64) x1]
noncomputable def impl_FirstSumOn.j0 (x0 : List (Int × Int)) (x1 : Int) (x16 : Bool) (xb4_0 : Int) (xb4_1 : Int) : Option ((Int × Int) × Bool) := runJ impl_FirstSumOn.g T impl_FirstSumOn.i [true, false, true] [(0, .val (.slice (.pair (.int .i64) (.int .i64))) x0), (1, .val (.int .i64) x1), (4, .ptr 4 0), (16, .val .bool x16)] [(4, [⟨(.int .i64), xb4_0⟩, ⟨(.int .i64), xb4_1⟩])]
noncomputable def impl_FirstSumOn.l0 (x0 : List (Int × Int)) (x1 : Int) (x6 : Int) (x7 : Int) (xb4_0 : Int) (xb4_1 : Int) : Option ((Int × Int) × Bool) := runAt impl_FirstSumOn.g T impl_FirstSumOn.i [true, true, true, false, false] [(0, .val (.slice (.pair (.int .i64) (.int .i64))) x0), (1, .val (.int .i64) x1), (4, .ptr 4 0), (6, .val (.int .i64) x6), (7, .val (.int .i64) x7)] [(4, [⟨(.int .i64), xb4_0⟩, ⟨(.int .i64), xb4_1⟩])]
theorem impl_FirstSumOn.f.eq (x0 : List (Int × Int)) (x1 : Int) : impl_FirstSumOn.f x0 x1 =
  (impl_AreBirthDates.f x0).bind fun y1 =>
  if (!y1) = true then
    impl_FirstSumOn.j0 x0 x1 true 0 0
  else
    (impl_between.f x1 0 10000).bind fun y9 =>
    impl_FirstSumOn.j0 x0 x1 (if false = true then true else !y9) 0 0 := by kernel_rfl
theorem impl_FirstSumOn.j0.eq (x0 : List (Int × Int)) (x1 : Int) (x16 : Bool) (xb4_0 : Int) (xb4_1 : Int) : impl_FirstSumOn.j0 x0 x1 x16 xb4_0 xb4_1 =
  if x16 = true then
    some ((0, 0), false)
  else
    (impl_lastBirth.f x0).bind fun y1 =>
    impl_FirstSumOn.l0 x0 x1 y1 1095365 xb4_0 xb4_1 := (runJ_eq _ _ _ _ _ _).trans (by kernel_rfl)
theorem impl_FirstSumOn.l0.eq (x0 : List (Int × Int)) (x1 : Int) (x6 : Int) (x7 : Int) (xb4_0 : Int) (xb4_1 : Int) : impl_FirstSumOn.l0 x0 x1 x6 x7 xb4_0 xb4_1 =
  if (decide (x6 < x7)) = true then
    let y3 := IntKind.i64.wrap ((IntKind.i64.wrap (x6 + x7)).tdiv 2)
    (impl_agesOn.f x0 y3).bind fun y4 =>
    (impl_total.f y4).bind fun y5 =>
    if (decide (y5 ≥ x1)) = true then
      impl_FirstSumOn.l0 x0 x1 x6 y3 xb4_0 xb4_1
    else
      impl_FirstSumOn.l0 x0 x1 (IntKind.i64.wrap (y3 + 1)) x7 xb4_0 xb4_1
  else
    (impl_dateAt.f x6).bind fun y8 =>
    some ((y8.1.1, y8.1.2), y8.2) := (runAt_loop _ _ _ _ _ _).trans (by kernel_rfl)
noncomputable def spec_biGood.g : Gam := [(47, spec_l1In.sp), (46, spec_biDate.sp)]
theorem spec_biGood.gok : GOkI Tryz.prog I spec_biGood.g := ((GOkI.nil _ _).cons spec_biDate.ok).cons spec_l1In.ok
noncomputable def spec_biGood.i : FI := ⟨Tryz.f54, body Tryz.f54, (.seq .nil (.seq (.seq .nil (.cond (.seq .nil .nil) .nil)) (.seq (.seq .nil (.blk (.loop [9, 10, 11] [] (.seq .nil (.seq (.cond .nil .nil) (.seq (.blk (.seq .nil (.seq .nil (.cond (.seq .nil .nil) .nil)))) .nil)))))) (.seq .nil .nil)))), [], [], [.res (.tmp 2) (.v .bool)]⟩
noncomputable def spec_biGood.sp : CSpec := mkSpec spec_biGood.g T spec_biGood.i
theorem spec_biGood.ok : SpecOk Tryz.prog I 54 spec_biGood.sp := mkSpec_ok hmix hI spec_biGood.gok tok spec_biGood.i Tryz.func54 (by kernel_rfl) (by kernel_rfl) (by kernel_rfl) (by kernel_rfl)
noncomputable def spec_biGood.f (x0 : List (Int × Int)) : Option (Bool) := run spec_biGood.g T spec_biGood.i [.v (.slice (.pair (.int .i64) (.int .i64))) x0]
noncomputable def spec_biGood.l0 (x9 : List (Int × Int)) (x10 : Int) (x11 : Int) : Option (Bool) := runAt spec_biGood.g T spec_biGood.i [true, true, false, true, false] [(9, .val (.slice (.pair (.int .i64) (.int .i64))) x9), (10, .val (.int .i64) x10), (11, .val (.int .i64) x11)] []
theorem spec_biGood.f.eq (x0 : List (Int × Int)) : spec_biGood.f x0 =
  (spec_l1In.f (x0.length : Int) 1 8).bind fun y2 =>
  if (!y2) = true then
    some false
  else
    spec_biGood.l0 x0 (x0.length : Int) 0 := by kernel_rfl
theorem spec_biGood.l0.eq (x9 : List (Int × Int)) (x10 : Int) (x11 : Int) : spec_biGood.l0 x9 x10 x11 =
  if (decide (x11 < x10)) = true then
    (rdI x9 x11).bind fun y2 =>
    (spec_biDate.f (y2.1, y2.2)).bind fun y3 =>
    if (!y3) = true then
      some false
    else
      spec_biGood.l0 x9 x10 (IntKind.i64.wrap (x11 + 1))
  else
    some true := (runAt_loop _ _ _ _ _ _).trans (by kernel_rfl)
noncomputable def spec_biDays.g : Gam := []
theorem spec_biDays.gok : GOkI Tryz.prog I spec_biDays.g := GOkI.nil _ _
noncomputable def spec_biDays.i : FI := ⟨Tryz.f55, body Tryz.f55, (.seq .nil (.seq .nil .nil)), [], [], [.res (.tmp 2) (.v (.int .i64))]⟩
noncomputable def spec_biDays.sp : CSpec := mkSpec spec_biDays.g T spec_biDays.i
theorem spec_biDays.ok : SpecOk Tryz.prog I 55 spec_biDays.sp := mkSpec_ok hmix hI spec_biDays.gok tok spec_biDays.i Tryz.func55 (by kernel_rfl) (by kernel_rfl) (by kernel_rfl) (by kernel_rfl)
noncomputable def spec_biDays.f (x0 : Int × Int) : Option (Int) := run spec_biDays.g T spec_biDays.i [.v (.pair (.int .i64) (.int .i64)) x0]
theorem spec_biDays.f.eq (x0 : Int × Int) : spec_biDays.f x0 =
  some (IntKind.i64.wrap ((IntKind.i64.wrap ((IntKind.i64.wrap (x0.1 * 365)) + x0.2)) - 1)) := by kernel_rfl
noncomputable def spec_biBack.g : Gam := [(47, spec_l1In.sp)]
theorem spec_biBack.gok : GOkI Tryz.prog I spec_biBack.g := (GOkI.nil _ _).cons spec_l1In.ok
noncomputable def spec_biBack.i : FI := ⟨Tryz.f56, body Tryz.f56, (.seq .nil (.seq (.seq .nil (.cond (.seq .nil .nil) .nil)) (.seq .nil .nil))), [], [], [.res (.cell 2 25) (.v (.pair (.int .i64) (.int .i64))), .res (.tmp 3) (.v .bool)]⟩
noncomputable def spec_biBack.sp : CSpec := mkSpec spec_biBack.g T spec_biBack.i
theorem spec_biBack.ok : SpecOk Tryz.prog I 56 spec_biBack.sp := mkSpec_ok hmix hI spec_biBack.gok tok spec_biBack.i Tryz.func56 (by kernel_rfl) (by kernel_rfl) (by kernel_rfl) (by kernel_rfl)
noncomputable def spec_biBack.f (x0 : Int) : Option ((Int × Int) × Bool) := run spec_biBack.g T spec_biBack.i [.v (.int .i64) x0]
theorem spec_biBack.f.eq (x0 : Int) : spec_biBack.f x0 =
  (spec_l1In.f x0 0 1095364).bind fun y1 =>
  if (!y1) = true then
    some ((0, 0), false)
  else
    some (((IntKind.i64.wrap (x0.tdiv 365)), (IntKind.i64.wrap ((x0.tmod 365) + 1))), true) := by kernel_rfl
noncomputable def spec_biSum.g : Gam := [(48, spec_biAge.sp)]
theorem spec_biSum.gok : GOkI Tryz.prog I spec_biSum.g := (GOkI.nil _ _).cons spec_biAge.ok
noncomputable def spec_biSum.i : FI := ⟨Tryz.f57, body Tryz.f57, (.seq .nil (.seq .nil (.seq (.seq .nil (.blk (.loop [3, 5, 8, 9, 10] [3] (.seq .nil (.seq (.cond .nil .nil) (.seq (.blk (.seq .nil .nil)) .nil)))))) (.seq .nil .nil)))), [], [], [.res (.tmp 4) (.v (.int .i64))]⟩
noncomputable def spec_biSum.sp : CSpec := mkSpec spec_biSum.g T spec_biSum.i
theorem spec_biSum.ok : SpecOk Tryz.prog I 57 spec_biSum.sp := mkSpec_ok hmix hI spec_biSum.gok tok spec_biSum.i Tryz.func57 (by kernel_rfl) (by kernel_rfl) (by kernel_rfl) (by kernel_rfl)
noncomputable def spec_biSum.f (x0 : List (Int × Int)) (x1 : Int × Int) : Option (Int) := run spec_biSum.g T spec_biSum.i [.v (.slice (.pair (.int .i64) (.int .i64))) x0, .v (.pair (.int .i64) (.int .i64)) x1]
noncomputable def spec_biSum.l0 (x5 : Int) (x8 : List (Int × Int)) (x9 : Int) (x10 : Int) (xb3_0 : Int) (xb3_1 : Int) : Option (Int) := runAt spec_biSum.g T spec_biSum.i [true, true, false, true, false] [(3, .ptr 3 0), (5, .val (.int .i64) x5), (8, .val (.slice (.pair (.int .i64) (.int .i64))) x8), (9, .val (.int .i64) x9), (10, .val (.int .i64) x10)] [(3, [⟨(.int .i64), xb3_0⟩, ⟨(.int .i64), xb3_1⟩])]
theorem spec_biSum.f.eq (x0 : List (Int × Int)) (x1 : Int × Int) : spec_biSum.f x0 x1 =
  spec_biSum.l0 0 x0 (x0.length : Int) 0 x1.1 x1.2 := by kernel_rfl
theorem spec_biSum.l0.eq (x5 : Int) (x8 : List (Int × Int)) (x9 : Int) (x10 : Int) (xb3_0 : Int) (xb3_1 : Int) : spec_biSum.l0 x5 x8 x9 x10 xb3_0 xb3_1 =
  if (decide (x10 < x9)) = true then
    (rdI x8 x10).bind fun y2 =>
    (spec_biAge.f (y2.1, y2.2) (xb3_0, xb3_1)).bind fun y3 =>
    spec_biSum.l0 (IntKind.i64.wrap (x5 + y3)) x8 x9 (IntKind.i64.wrap (x10 + 1)) xb3_0 xb3_1
  else
    some x5 := (runAt_loop _ _ _ _ _ _).trans (by kernel_rfl)
noncomputable def spec_FirstSumOn.g : Gam := [(54, spec_biGood.sp), (55, spec_biDays.sp), (56, spec_biBack.sp), (57, spec_biSum.sp), (47, spec_l1In.sp)]
theorem spec_FirstSumOn.gok : GOkI Tryz.prog I spec_FirstSumOn.g := (((((GOkI.nil _ _).cons spec_l1In.ok).cons spec_biSum.ok).cons spec_biBack.ok).cons spec_biDays.ok).cons spec_biGood.ok
noncomputable def spec_FirstSumOn.i : FI := ⟨Tryz.f10, body Tryz.f10, (.seq .nil (.seq (.cut [0, 1, 4, 21] [4] .nil (.cond (.seq .nil .nil) .nil)) (.seq .nil (.seq (.seq .nil (.blk (.loop [0, 1, 4, 6, 26, 27, 28] [4, 6] (.seq .nil (.seq (.cond .nil .nil) (.seq (.blk (.seq .nil (.seq .nil (.cond .nil .nil)))) .nil)))))) (.seq .nil (.seq (.blk (.loop [0, 1, 4, 9, 10] [4] (.seq (.seq .nil (.cond .nil .nil)) (.blk (.seq .nil (.seq .nil (.seq .nil (.cond .nil .nil)))))))) (.seq .nil .nil))))))), [], [], [.res (.cell 4 25) (.v (.pair (.int .i64) (.int .i64))), .res (.tmp 5) (.v .bool)]⟩
noncomputable def spec_FirstSumOn.sp : CSpec := mkSpec spec_FirstSumOn.g T spec_FirstSumOn.i
theorem spec_FirstSumOn.ok : SpecOk Tryz.prog I 10 spec_FirstSumOn.sp := mkSpec_ok hmix hI spec_FirstSumOn.gok tok spec_FirstSumOn.i Tryz.func10 (by kernel_rfl) (by kernel_rfl) (by kernel_rfl) (by kernel_rfl)
noncomputable def spec_FirstSumOn.f (x0 : List (Int × Int)) (x1 : Int) : Option ((Int × Int) × Bool) := run spec_FirstSumOn.g T spec_FirstSumOn.i [.v (.slice (.pair (.int .i64) (.int .i64))) x0, .v (.int .i64) x1]
noncomputable def spec_FirstSumOn.j0 (x0 : List (Int × Int)) (x1 : Int) (x21 : Bool) (xb4_0 : Int) (xb4_1 : Int) : Option ((Int × Int) × Bool) := runJ spec_FirstSumOn.g T spec_FirstSumOn.i [true, false, true] [(0, .val (.slice (.pair (.int .i64) (.int .i64))) x0), (1, .val (.int .i64) x1), (4, .ptr 4 0), (21, .val .bool x21)] [(4, [⟨(.int .i64), xb4_0⟩, ⟨(.int .i64), xb4_1⟩])]
noncomputable def spec_FirstSumOn.l0 (x0 : List (Int × Int)) (x1 : Int) (x26 : List (Int × Int)) (x27 : Int) (x28 : Int) (xb4_0 : Int) (xb4_1 : Int) (xb6_0 : Int) (xb6_1 : Int) : Option ((Int × Int) × Bool) := runAt spec_FirstSumOn.g T spec_FirstSumOn.i [true, true, true, false, true, false] [(0, .val (.slice (.pair (.int .i64) (.int .i64))) x0), (1, .val (.int .i64) x1), (4, .ptr 4 0), (6, .ptr 6 0), (26, .val (.slice (.pair (.int .i64) (.int .i64))) x26), (27, .val (.int .i64) x27), (28, .val (.int .i64) x28)] [(4, [⟨(.int .i64), xb4_0⟩, ⟨(.int .i64), xb4_1⟩]), (6, [⟨(.int .i64), xb6_0⟩, ⟨(.int .i64), xb6_1⟩])]
noncomputable def spec_FirstSumOn.l1 (x0 : List (Int × Int)) (x1 : Int) (x9 : Int) (x10 : Int) (xb4_0 : Int) (xb4_1 : Int) : Option ((Int × Int) × Bool) := runAt spec_FirstSumOn.g T spec_FirstSumOn.i [true, true, true, true, true, false, false] [(0, .val (.slice (.pair (.int .i64) (.int .i64))) x0), (1, .val (.int .i64) x1), (4, .ptr 4 0), (9, .val (.int .i64) x9), (10, .val (.int .i64) x10)] [(4, [⟨(.int .i64), xb4_0⟩, ⟨(.int .i64), xb4_1⟩])]
theorem spec_FirstSumOn.f.eq (x0 : List (Int × Int)) (x1 : Int) : spec_FirstSumOn.f x0 x1 =
  (spec_biGood.f x0).bind fun y1 =>
  if (!y1) = true then
    spec_FirstSumOn.j0 x0 x1 true 0 0
  else
    (spec_l1In.f x1 0 10000).bind fun y9 =>
    spec_FirstSumOn.j0 x0 x1 (if false = true then true else !y9) 0 0 := by kernel_rfl
theorem spec_FirstSumOn.j0.eq (x0 : List (Int × Int)) (x1 : Int) (x21 : Bool) (xb4_0 : Int) (xb4_1 : Int) : spec_FirstSumOn.j0 x0 x1 x21 xb4_0 xb4_1 =
  if x21 = true then
    some ((0, 0), false)
  else
    (rdI x0 0).bind fun y1 =>
    spec_FirstSumOn.l0 x0 x1 x0 (x0.length : Int) 0 xb4_0 xb4_1 y1.1 y1.2 := (runJ_eq _ _ _ _ _ _).trans (by kernel_rfl)
theorem spec_FirstSumOn.l0.eq (x0 : List (Int × Int)) (x1 : Int) (x26 : List (Int × Int)) (x27 : Int) (x28 : Int) (xb4_0 : Int) (xb4_1 : Int) (xb6_0 : Int) (xb6_1 : Int) : spec_FirstSumOn.l0 x0 x1 x26 x27 x28 xb4_0 xb4_1 xb6_0 xb6_1 =
  if (decide (x28 < x27)) = true then
    (rdI x26 x28).bind fun y2 =>
    (spec_biDays.f (y2.1, y2.2)).bind fun y3 =>
    (spec_biDays.f (xb6_0, xb6_1)).bind fun y4 =>
    if (decide (y3 > y4)) = true then
      spec_FirstSumOn.l0 x0 x1 x26 x27 (IntKind.i64.wrap (x28 + 1)) xb4_0 xb4_1 y2.1 y2.2
    else
      spec_FirstSumOn.l0 x0 x1 x26 x27 (IntKind.i64.wrap (x28 + 1)) xb4_0 xb4_1 xb6_0 xb6_1
  else
    (spec_biDays.f (xb6_0, xb6_1)).bind fun y8 =>
    spec_FirstSumOn.l1 x0 x1 y8 1095365 xb4_0 xb4_1 := (runAt_loop _ _ _ _ _ _).trans (by kernel_rfl)
theorem spec_FirstSumOn.l1.eq (x0 : List (Int × Int)) (x1 : Int) (x9 : Int) (x10 : Int) (xb4_0 : Int) (xb4_1 : Int) : spec_FirstSumOn.l1 x0 x1 x9 x10 xb4_0 xb4_1 =
  if (decide (x9 < x10)) = true then
    let y3 := IntKind.i64.wrap ((IntKind.i64.wrap (x9 + x10)).tdiv 2)
    (spec_biBack.f y3).bind fun y4 =>
    (spec_biSum.f x0 (y4.1.1, y4.1.2)).bind fun y5 =>
    if (decide (y5 ≥ x1)) = true then
      spec_FirstSumOn.l1 x0 x1 x9 y3 xb4_0 xb4_1
    else
      spec_FirstSumOn.l1 x0 x1 (IntKind.i64.wrap (y3 + 1)) x10 xb4_0 xb4_1
  else
    (spec_biBack.f x9).bind fun y8 =>
    some ((y8.1.1, y8.1.2), y8.2) := (runAt_loop _ _ _ _ _ _).trans (by kernel_rfl)
end Go.Proofs.YtobblofdkpljfaaGreatDoor.S
