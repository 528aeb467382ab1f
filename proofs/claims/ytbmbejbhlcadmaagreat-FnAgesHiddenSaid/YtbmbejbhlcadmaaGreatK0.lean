/- What the functions of this seat come to, over plain values. No condition. -/
import Derived.Test.YtbmbejbhlcadmaaGreatE3
import Derived.Test.YtbmbejbhlcadmaaGreatH
import Derived.Test.YtbmbejbhlcadmaaGreatProg
namespace Go.Proofs.YtbmbejbhlcadmaaGreat.S
open Go Go.Proofs.YtbmbejbhlcadmaaGreat.Eng Go.Proofs
set_option maxRecDepth 1000000
set_option linter.unusedVariables false
def T : Tys := [(3, ⟨(.int .i64), 0, 0, []⟩), (4, ⟨.bool, 0, 0, []⟩), (5, ⟨(.int .u8), 0, 0, []⟩), (9, ⟨.str, 0, 0, []⟩), (22, ⟨(.slice (.int .u8)), 5, 1, []⟩), (24, ⟨(.slice (.int .i64)), 3, 8, []⟩), (27, ⟨(.slice (.pair (.int .i64) (.pair (.int .i64) (.int .i64)))), 38, 24, []⟩), (29, ⟨(.pair (.int .i64) (.slice (.pair (.int .i64) (.pair (.int .i64) (.int .i64))))), 0, 0, [(3, 0), (27, 1)]⟩), (38, ⟨(.pair (.int .i64) (.pair (.int .i64) (.int .i64))), 0, 0, [(3, 0), (3, 1), (3, 2)]⟩), (44, ⟨(.slice (.slice (.int .i64))), 24, 24, []⟩), (62, ⟨(.int .u64), 0, 0, []⟩), (64, ⟨(.pair (.slice (.int .u8)) (.pair (.int .i64) (.int .u64))), 0, 0, [(22, 0), (3, 1), (62, 2)]⟩)]
theorem tok3 : TFits Tryz.prog T 3 ⟨(.int .i64), 0, 0, []⟩ := TFits.int' (by kernel_rfl) (by kernel_rfl) (by kernel_rfl)
theorem tok4 : TFits Tryz.prog T 4 ⟨.bool, 0, 0, []⟩ := TFits.bool' (by kernel_rfl) (by kernel_rfl) (by kernel_rfl)
theorem tok5 : TFits Tryz.prog T 5 ⟨(.int .u8), 0, 0, []⟩ := TFits.int' (by kernel_rfl) (by kernel_rfl) (by kernel_rfl)
theorem tok9 : TFits Tryz.prog T 9 ⟨.str, 0, 0, []⟩ := TFits.str' (by kernel_rfl) (by kernel_rfl) (by kernel_rfl)
theorem tok22 : TFits Tryz.prog T 22 ⟨(.slice (.int .u8)), 5, 1, []⟩ := TFits.slice' (by kernel_rfl) (by kernel_rfl) (by kernel_rfl) (by kernel_rfl) (by kernel_rfl) (by kernel_rfl)
theorem tok24 : TFits Tryz.prog T 24 ⟨(.slice (.int .i64)), 3, 8, []⟩ := TFits.slice' (by kernel_rfl) (by kernel_rfl) (by kernel_rfl) (by kernel_rfl) (by kernel_rfl) (by kernel_rfl)
theorem tok27 : TFits Tryz.prog T 27 ⟨(.slice (.pair (.int .i64) (.pair (.int .i64) (.int .i64)))), 38, 24, []⟩ := TFits.slice' (by kernel_rfl) (by kernel_rfl) (by kernel_rfl) (by kernel_rfl) (by kernel_rfl) (by kernel_rfl)
theorem tok29 : TFits Tryz.prog T 29 ⟨(.pair (.int .i64) (.slice (.pair (.int .i64) (.pair (.int .i64) (.int .i64))))), 0, 0, [(3, 0), (27, 1)]⟩ := TFits.pair' (by kernel_rfl) (by kernel_rfl) (by kernel_rfl) (by kernel_rfl) (by kernel_rfl)
theorem tok38 : TFits Tryz.prog T 38 ⟨(.pair (.int .i64) (.pair (.int .i64) (.int .i64))), 0, 0, [(3, 0), (3, 1), (3, 2)]⟩ := TFits.pair' (by kernel_rfl) (by kernel_rfl) (by kernel_rfl) (by kernel_rfl) (by kernel_rfl)
theorem tok44 : TFits Tryz.prog T 44 ⟨(.slice (.slice (.int .i64))), 24, 24, []⟩ := TFits.slice' (by kernel_rfl) (by kernel_rfl) (by kernel_rfl) (by kernel_rfl) (by kernel_rfl) (by kernel_rfl)
theorem tok62 : TFits Tryz.prog T 62 ⟨(.int .u64), 0, 0, []⟩ := TFits.int' (by kernel_rfl) (by kernel_rfl) (by kernel_rfl)
theorem tok64 : TFits Tryz.prog T 64 ⟨(.pair (.slice (.int .u8)) (.pair (.int .i64) (.int .u64))), 0, 0, [(22, 0), (3, 1), (62, 2)]⟩ := TFits.pair' (by kernel_rfl) (by kernel_rfl) (by kernel_rfl) (by kernel_rfl) (by kernel_rfl)
theorem tok : TOk Tryz.prog T := TOkL.ok (((((((((((((TOkL.nil _ _).cons tok64).cons tok62).cons tok44).cons tok38).cons tok29).cons tok27).cons tok24).cons tok22).cons tok9).cons tok5).cons tok4).cons tok3)
theorem hmix : Tryz.prog.follows .mixedOrders = true := by kernel_rfl
def body (f : Func) : Code := f.body.getD .skip
noncomputable def laws_big.g : Gam := []
theorem laws_big.gok : GOkI Tryz.prog I laws_big.g := GOkI.nil _ _
noncomputable def laws_big.i : FI := ⟨Tryz.f4, body Tryz.f4, (.seq .nil (.seq .nil .nil)), [], [], [.res (.tmp 4) (.v .bool)]⟩
noncomputable def laws_big.sp : CSpec := mkSpec laws_big.g T laws_big.i
theorem laws_big.ok : SpecOk Tryz.prog I 4 laws_big.sp := mkSpec_ok hmix hI laws_big.gok tok laws_big.i Tryz.func4 (by kernel_rfl) (by kernel_rfl) (by kernel_rfl) (by kernel_rfl)
noncomputable def laws_big.f (x0 : List Int) (x1 : List Int) : Option (Bool) := run laws_big.g T laws_big.i [.v (.slice (.int .u8)) x0, .v (.slice (.int .u8)) x1]
theorem laws_big.f.eq (x0 : List Int) (x1 : List Int) : laws_big.f x0 x1 =
  if (decide ((x0.length : Int) > 1048576)) = true then
    some true
  else
    some (if false = true then true else (decide ((x1.length : Int) > (IntKind.i64.wrap (1048576 - (x0.length : Int)))))) := by kernel_rfl
noncomputable def spec_l1Cur_next.g : Gam := []
theorem spec_l1Cur_next.gok : GOkI Tryz.prog I spec_l1Cur_next.g := GOkI.nil _ _
noncomputable def spec_l1Cur_next.i : FI := ⟨Tryz.f66, body Tryz.f66, (.seq .nil (.seq .nil (.seq (.seq .nil (.cond .nil .nil)) (.seq .nil (.seq .nil (.seq (.seq .nil (.cond (.seq .nil .nil) .nil)) (.seq .nil .nil))))))), [], [1000000], [.res (.tmp 2) (.v (.int .i64)), .box 1000000 0 (.v (.slice (.int .u8))), .box 1000000 1 (.v (.int .i64)), .box 1000000 2 (.v (.int .u64))]⟩
noncomputable def spec_l1Cur_next.sp : CSpec := mkSpec spec_l1Cur_next.g T spec_l1Cur_next.i
theorem spec_l1Cur_next.ok : SpecOk Tryz.prog I 66 spec_l1Cur_next.sp := mkSpec_ok hmix hI spec_l1Cur_next.gok tok spec_l1Cur_next.i Tryz.func66 (by kernel_rfl) (by kernel_rfl) (by kernel_rfl) (by kernel_rfl)
noncomputable def spec_l1Cur_next.f (x0_0 : List Int) (x0_1 : Int) (x0_2 : Int) : Option (Int × (List Int) × Int × Int) := run spec_l1Cur_next.g T spec_l1Cur_next.i [.bx [⟨(.slice (.int .u8)), x0_0⟩, ⟨(.int .i64), x0_1⟩, ⟨(.int .u64), x0_2⟩]]
theorem spec_l1Cur_next.f.eq (x0_0 : List Int) (x0_1 : Int) (x0_2 : Int) : spec_l1Cur_next.f x0_0 x0_1 x0_2 =
  if (decide (x0_1 < (x0_0.length : Int))) = true then
    (rdI x0_0 x0_1).bind fun y3 =>
    let y5 := IntKind.i64.wrap (x0_1 + 1)
    let y9 := IntKind.u64.wrap ((IntKind.u64.wrap ((IntKind.u64.wrap (x0_2 * 6364136223846793005)) + (IntKind.u64.wrap (IntKind.i64.wrap y3)))) + 1442695040888963407)
    if (decide (y5 ≤ (x0_0.length : Int))) = true then
      some ((IntKind.i64.wrap y3), x0_0, y5, y9)
    else
      some ((IntKind.i64.wrap (bitI .and .u64 (shrI .u64 y9 40) 255)), x0_0, y5, y9)
  else
    let y15 := IntKind.i64.wrap (x0_1 + 1)
    let y19 := IntKind.u64.wrap ((IntKind.u64.wrap ((IntKind.u64.wrap (x0_2 * 6364136223846793005)) + (IntKind.u64.wrap 0))) + 1442695040888963407)
    if (decide (y15 ≤ (x0_0.length : Int))) = true then
      some (0, x0_0, y15, y19)
    else
      some ((IntKind.i64.wrap (bitI .and .u64 (shrI .u64 y19 40) 255)), x0_0, y15, y19) := by kernel_rfl
noncomputable def spec_l1Cur_pick.g : Gam := [(66, spec_l1Cur_next.sp)]
theorem spec_l1Cur_pick.gok : GOkI Tryz.prog I spec_l1Cur_pick.g := (GOkI.nil _ _).cons spec_l1Cur_next.ok
noncomputable def spec_l1Cur_pick.i : FI := ⟨Tryz.f35, body Tryz.f35, (.seq .nil (.seq (.seq .nil (.cond (.seq .nil .nil) .nil)) (.seq .nil (.seq (.seq .nil (.cond .nil .nil)) (.seq .nil .nil))))), [], [1000000], [.res (.tmp 4) (.v (.int .i64)), .box 1000000 0 (.v (.slice (.int .u8))), .box 1000000 1 (.v (.int .i64)), .box 1000000 2 (.v (.int .u64))]⟩
noncomputable def spec_l1Cur_pick.sp : CSpec := mkSpec spec_l1Cur_pick.g T spec_l1Cur_pick.i
theorem spec_l1Cur_pick.ok : SpecOk Tryz.prog I 35 spec_l1Cur_pick.sp := mkSpec_ok hmix hI spec_l1Cur_pick.gok tok spec_l1Cur_pick.i Tryz.func35 (by kernel_rfl) (by kernel_rfl) (by kernel_rfl) (by kernel_rfl)
noncomputable def spec_l1Cur_pick.f (x0_0 : List Int) (x0_1 : Int) (x0_2 : Int) (x1 : Int) : Option (Int × (List Int) × Int × Int) := run spec_l1Cur_pick.g T spec_l1Cur_pick.i [.bx [⟨(.slice (.int .u8)), x0_0⟩, ⟨(.int .i64), x0_1⟩, ⟨(.int .u64), x0_2⟩], .v (.int .i64) x1]
theorem spec_l1Cur_pick.f.eq (x0_0 : List Int) (x0_1 : Int) (x0_2 : Int) (x1 : Int) : spec_l1Cur_pick.f x0_0 x0_1 x0_2 x1 =
  if (decide (x1 ≤ 1)) = true then
    some (0, x0_0, x0_1, x0_2)
  else
    (spec_l1Cur_next.f x0_0 x0_1 x0_2).bind fun y2 =>
    if (decide (x1 > 200)) = true then
      (spec_l1Cur_next.f y2.2.1 y2.2.2.1 y2.2.2.2).bind fun y5 =>
      if x1 = 0 then
        none
      else
        some (((IntKind.i64.wrap ((IntKind.i64.wrap (y2.1 * 256)) + y5.1)).tmod x1), y5.2.1, y5.2.2.1, y5.2.2.2)
    else
      if x1 = 0 then
        none
      else
        some ((y2.1.tmod x1), y2.2.1, y2.2.2.1, y2.2.2.2) := by kernel_rfl
noncomputable def spec_l1Cur_one.g : Gam := [(35, spec_l1Cur_pick.sp)]
theorem spec_l1Cur_one.gok : GOkI Tryz.prog I spec_l1Cur_one.g := (GOkI.nil _ _).cons spec_l1Cur_pick.ok
noncomputable def spec_l1Cur_one.i : FI := ⟨Tryz.f32, body Tryz.f32, (.seq .nil (.seq .nil .nil)), [], [1000000], [.res (.tmp 4) (.v .bool), .box 1000000 0 (.v (.slice (.int .u8))), .box 1000000 1 (.v (.int .i64)), .box 1000000 2 (.v (.int .u64))]⟩
noncomputable def spec_l1Cur_one.sp : CSpec := mkSpec spec_l1Cur_one.g T spec_l1Cur_one.i
theorem spec_l1Cur_one.ok : SpecOk Tryz.prog I 32 spec_l1Cur_one.sp := mkSpec_ok hmix hI spec_l1Cur_one.gok tok spec_l1Cur_one.i Tryz.func32 (by kernel_rfl) (by kernel_rfl) (by kernel_rfl) (by kernel_rfl)
noncomputable def spec_l1Cur_one.f (x0_0 : List Int) (x0_1 : Int) (x0_2 : Int) (x1 : Int) : Option (Bool × (List Int) × Int × Int) := run spec_l1Cur_one.g T spec_l1Cur_one.i [.bx [⟨(.slice (.int .u8)), x0_0⟩, ⟨(.int .i64), x0_1⟩, ⟨(.int .u64), x0_2⟩], .v (.int .i64) x1]
theorem spec_l1Cur_one.f.eq (x0_0 : List Int) (x0_1 : Int) (x0_2 : Int) (x1 : Int) : spec_l1Cur_one.f x0_0 x0_1 x0_2 x1 =
  (spec_l1Cur_pick.f x0_0 x0_1 x0_2 x1).bind fun y1 =>
  some ((y1.1 == 0), y1.2.1, y1.2.2.1, y1.2.2.2) := by kernel_rfl
noncomputable def spec_l1Cur_hidden.g : Gam := [(35, spec_l1Cur_pick.sp), (32, spec_l1Cur_one.sp)]
theorem spec_l1Cur_hidden.gok : GOkI Tryz.prog I spec_l1Cur_hidden.g := ((GOkI.nil _ _).cons spec_l1Cur_one.ok).cons spec_l1Cur_pick.ok
noncomputable def spec_l1Cur_hidden.i : FI := ⟨Tryz.f33, body Tryz.f33, (.seq .nil (.seq .nil (.seq (.seq .nil (.cond .nil .nil)) (.seq .nil .nil)))), [], [1000000], [.res (.tmp 2) (.own 3 (.int .i64)), .box 1000000 0 (.v (.slice (.int .u8))), .box 1000000 1 (.v (.int .i64)), .box 1000000 2 (.v (.int .u64))]⟩
noncomputable def spec_l1Cur_hidden.sp : CSpec := mkSpec spec_l1Cur_hidden.g T spec_l1Cur_hidden.i
theorem spec_l1Cur_hidden.ok : SpecOk Tryz.prog I 33 spec_l1Cur_hidden.sp := mkSpec_ok hmix hI spec_l1Cur_hidden.gok tok spec_l1Cur_hidden.i Tryz.func33 (by kernel_rfl) (by kernel_rfl) (by kernel_rfl) (by kernel_rfl)
noncomputable def spec_l1Cur_hidden.f (x0_0 : List Int) (x0_1 : Int) (x0_2 : Int) : Option ((List Int) × (List Int) × Int × Int) := run spec_l1Cur_hidden.g T spec_l1Cur_hidden.i [.bx [⟨(.slice (.int .u8)), x0_0⟩, ⟨(.int .i64), x0_1⟩, ⟨(.int .u64), x0_2⟩]]
theorem spec_l1Cur_hidden.f.eq (x0_0 : List Int) (x0_1 : Int) (x0_2 : Int) : spec_l1Cur_hidden.f x0_0 x0_1 x0_2 =
  (spec_l1Cur_pick.f x0_0 x0_1 x0_2 12).bind fun y1 =>
  let y2 := IntKind.i64.wrap (1 + y1.1)
  (spec_l1Cur_pick.f y1.2.1 y1.2.2.1 y1.2.2.2 12).bind fun y3 =>
  let y4 := IntKind.i64.wrap (1 + y3.1)
  (spec_l1Cur_one.f y3.2.1 y3.2.2.1 y3.2.2.2 3).bind fun y5 =>
  if y5.1 = true then
    (spec_l1Cur_pick.f y5.2.1 y5.2.2.1 y5.2.2.2 12).bind fun y6 =>
    (catI (appMax 8) [y2, y4] [(IntKind.i64.wrap (1 + y6.1))]).bind fun y8 =>
    some (y8, y6.2.1, y6.2.2.1, y6.2.2.2)
  else
    some ([y2, y4], y5.2.1, y5.2.2.1, y5.2.2.2) := by kernel_rfl
noncomputable def spec_l1Cur_among.g : Gam := [(35, spec_l1Cur_pick.sp)]
theorem spec_l1Cur_among.gok : GOkI Tryz.prog I spec_l1Cur_among.g := (GOkI.nil _ _).cons spec_l1Cur_pick.ok
noncomputable def spec_l1Cur_among.i : FI := ⟨Tryz.f34, body Tryz.f34, (.seq .nil (.seq .nil .nil)), [], [1000000], [.res (.tmp 4) (.v (.int .i64)), .box 1000000 0 (.v (.slice (.int .u8))), .box 1000000 1 (.v (.int .i64)), .box 1000000 2 (.v (.int .u64))]⟩
noncomputable def spec_l1Cur_among.sp : CSpec := mkSpec spec_l1Cur_among.g T spec_l1Cur_among.i
theorem spec_l1Cur_among.ok : SpecOk Tryz.prog I 34 spec_l1Cur_among.sp := mkSpec_ok hmix hI spec_l1Cur_among.gok tok spec_l1Cur_among.i Tryz.func34 (by kernel_rfl) (by kernel_rfl) (by kernel_rfl) (by kernel_rfl)
noncomputable def spec_l1Cur_among.f (x0_0 : List Int) (x0_1 : Int) (x0_2 : Int) (x1 : List Int) : Option (Int × (List Int) × Int × Int) := run spec_l1Cur_among.g T spec_l1Cur_among.i [.bx [⟨(.slice (.int .u8)), x0_0⟩, ⟨(.int .i64), x0_1⟩, ⟨(.int .u64), x0_2⟩], .v (.slice (.int .i64)) x1]
theorem spec_l1Cur_among.f.eq (x0_0 : List Int) (x0_1 : Int) (x0_2 : Int) (x1 : List Int) : spec_l1Cur_among.f x0_0 x0_1 x0_2 x1 =
  (spec_l1Cur_pick.f x0_0 x0_1 x0_2 (x1.length : Int)).bind fun y2 =>
  (rdI x1 y2.1).bind fun y3 =>
  some (y3, y2.2.1, y2.2.2.1, y2.2.2.2) := by kernel_rfl
noncomputable def spec_DrawMakePuzzle.g : Gam := [(32, spec_l1Cur_one.sp), (33, spec_l1Cur_hidden.sp), (34, spec_l1Cur_among.sp), (35, spec_l1Cur_pick.sp)]
theorem spec_DrawMakePuzzle.gok : GOkI Tryz.prog I spec_DrawMakePuzzle.g := ((((GOkI.nil _ _).cons spec_l1Cur_pick.ok).cons spec_l1Cur_among.ok).cons spec_l1Cur_hidden.ok).cons spec_l1Cur_one.ok
noncomputable def spec_DrawMakePuzzle.i : FI := ⟨Tryz.f5, body Tryz.f5, (.seq .nil (.seq .nil (.seq (.seq .nil (.cond (.seq .nil .nil) .nil)) (.seq .nil .nil)))), [], [], [.res (.tmp 2) (.own 3 (.int .i64)), .res (.tmp 3) (.v (.int .i64)), .res (.tmp 4) (.v (.int .i64))]⟩
noncomputable def spec_DrawMakePuzzle.sp : CSpec := mkSpec spec_DrawMakePuzzle.g T spec_DrawMakePuzzle.i
theorem spec_DrawMakePuzzle.ok : SpecOk Tryz.prog I 5 spec_DrawMakePuzzle.sp := mkSpec_ok hmix hI spec_DrawMakePuzzle.gok tok spec_DrawMakePuzzle.i Tryz.func5 (by kernel_rfl) (by kernel_rfl) (by kernel_rfl) (by kernel_rfl)
noncomputable def spec_DrawMakePuzzle.f (x0 : List Int) : Option ((List Int) × Int × Int) := run spec_DrawMakePuzzle.g T spec_DrawMakePuzzle.i [.v (.slice (.int .u8)) x0]
theorem spec_DrawMakePuzzle.f.eq (x0 : List Int) : spec_DrawMakePuzzle.f x0 =
  (spec_l1Cur_one.f x0 0 0 12).bind fun y1 =>
  if y1.1 = true then
    (spec_l1Cur_hidden.f y1.2.1 y1.2.2.1 y1.2.2.2).bind fun y2 =>
    (spec_l1Cur_among.f y2.2.1 y2.2.2.1 y2.2.2.2 [(-1), 0, 12, 13]).bind fun y3 =>
    (catI (appMax 8) y2.1 [y3.1]).bind fun y4 =>
    (spec_l1Cur_among.f y3.2.1 y3.2.2.1 y3.2.2.2 [(-1), 6, 7]).bind fun y5 =>
    (spec_l1Cur_among.f y5.2.1 y5.2.2.1 y5.2.2.2 [(-1), 9999, 10000]).bind fun y6 =>
    some (y4, y5.1, y6.1)
  else
    (spec_l1Cur_hidden.f y1.2.1 y1.2.2.1 y1.2.2.2).bind fun y7 =>
    (spec_l1Cur_pick.f y7.2.1 y7.2.2.1 y7.2.2.2 7).bind fun y8 =>
    (spec_l1Cur_pick.f y8.2.1 y8.2.2.1 y8.2.2.2 10000).bind fun y9 =>
    some (y7.1, y8.1, y9.1) := by kernel_rfl
noncomputable def impl_between.g : Gam := []
theorem impl_between.gok : GOkI Tryz.prog I impl_between.g := GOkI.nil _ _
noncomputable def impl_between.i : FI := ⟨Tryz.f37, body Tryz.f37, (.seq .nil (.seq .nil .nil)), [], [], [.res (.tmp 6) (.v .bool)]⟩
noncomputable def impl_between.sp : CSpec := mkSpec impl_between.g T impl_between.i
theorem impl_between.ok : SpecOk Tryz.prog I 37 impl_between.sp := mkSpec_ok hmix hI impl_between.gok tok impl_between.i Tryz.func37 (by kernel_rfl) (by kernel_rfl) (by kernel_rfl) (by kernel_rfl)
noncomputable def impl_between.f (x0 : Int) (x1 : Int) (x2 : Int) : Option (Bool) := run impl_between.g T impl_between.i [.v (.int .i64) x0, .v (.int .i64) x1, .v (.int .i64) x2]
theorem impl_between.f.eq (x0 : Int) (x1 : Int) (x2 : Int) : impl_between.f x0 x1 x2 =
  if (decide (x0 ≥ x1)) = true then
    some (if true = true then (decide (x0 ≤ x2)) else false)
  else
    some false := by kernel_rfl
noncomputable def impl_areBetween_1.g : Gam := [(37, impl_between.sp)]
theorem impl_areBetween_1.gok : GOkI Tryz.prog I impl_areBetween_1.g := (GOkI.nil _ _).cons impl_between.ok
noncomputable def impl_areBetween_1.i : FI := ⟨Tryz.f86, body Tryz.f86, (.seq .nil (.seq .nil .nil)), [], [], [.res (.tmp 4) (.v .bool)]⟩
noncomputable def impl_areBetween_1.sp : CSpec := mkSpec impl_areBetween_1.g T impl_areBetween_1.i
theorem impl_areBetween_1.ok : SpecOk Tryz.prog I 86 impl_areBetween_1.sp := mkSpec_ok hmix hI impl_areBetween_1.gok tok impl_areBetween_1.i Tryz.func86 (by kernel_rfl) (by kernel_rfl) (by kernel_rfl) (by kernel_rfl)
noncomputable def impl_areBetween_1.f (x0 : Int) (x1 : Int) (x2 : Int) : Option (Bool) := run impl_areBetween_1.g T impl_areBetween_1.i [.v (.int .i64) x0, .cr (.int .i64) x1, .cr (.int .i64) x2]
theorem impl_areBetween_1.f.eq (x0 : Int) (x1 : Int) (x2 : Int) : impl_areBetween_1.f x0 x1 x2 =
  (impl_between.f x0 x1 x2).bind fun y1 =>
  some (!y1) := by kernel_rfl
noncomputable def slices_IndexFunc.g : Gam := [(86, impl_areBetween_1.sp)]
theorem slices_IndexFunc.gok : GOkI Tryz.prog I slices_IndexFunc.g := (GOkI.nil _ _).cons impl_areBetween_1.ok
noncomputable def slices_IndexFunc.i : FI := ⟨Tryz.f97, body Tryz.f97, (.seq .nil (.seq (.seq .nil (.blk (.loop [0, 1, 7, 8] [] (.seq .nil (.seq (.cond .nil .nil) (.seq (.blk (.seq .nil (.seq .nil (.cond (.seq .nil .nil) .nil)))) .nil)))))) (.seq .nil .nil))), [], [], [.res (.tmp 4) (.v (.int .i64))]⟩
noncomputable def slices_IndexFunc.sp : CSpec := mkSpec slices_IndexFunc.g T slices_IndexFunc.i
theorem slices_IndexFunc.ok : SpecOk Tryz.prog I 97 slices_IndexFunc.sp := mkSpec_ok hmix hI slices_IndexFunc.gok tok slices_IndexFunc.i Tryz.func97 (by kernel_rfl) (by kernel_rfl) (by kernel_rfl) (by kernel_rfl)
noncomputable def slices_IndexFunc.f (x0 : List Int) (x1_0 : Int) (x1_1 : Int) : Option (Int) := run slices_IndexFunc.g T slices_IndexFunc.i [.v (.slice (.int .i64)) x0, .clo (closure impl_areBetween_1.sp [.cr (.int .i64) x1_0, .cr (.int .i64) x1_1])]
noncomputable def slices_IndexFunc.l0 (x0 : List Int) (x1_0 : Int) (x1_1 : Int) (x7 : Int) (x8 : Int) : Option (Int) := runAt slices_IndexFunc.g T slices_IndexFunc.i [true, false, true, false] [(0, .val (.slice (.int .i64)) x0), (1, .clo (closure impl_areBetween_1.sp [.cr (.int .i64) x1_0, .cr (.int .i64) x1_1])), (7, .val (.int .i64) x7), (8, .val (.int .i64) x8)] []
theorem slices_IndexFunc.f.eq (x0 : List Int) (x1_0 : Int) (x1_1 : Int) : slices_IndexFunc.f x0 x1_0 x1_1 =
  slices_IndexFunc.l0 x0 x1_0 x1_1 (x0.length : Int) 0 := by kernel_rfl
theorem slices_IndexFunc.l0.eq (x0 : List Int) (x1_0 : Int) (x1_1 : Int) (x7 : Int) (x8 : Int) : slices_IndexFunc.l0 x0 x1_0 x1_1 x7 x8 =
  if (decide (x8 < x7)) = true then
    (rdI x0 x8).bind fun y2 =>
    ((impl_areBetween_1.f y2 x1_0 x1_1).bind some).bind fun y3 =>
    if y3 = true then
      some x8
    else
      slices_IndexFunc.l0 x0 x1_0 x1_1 x7 (IntKind.i64.wrap (x8 + 1))
  else
    some (-1) := (runAt_loop _ _ _ _ _ _).trans (by kernel_rfl)
noncomputable def slices_ContainsFunc.g : Gam := [(97, slices_IndexFunc.sp)]
theorem slices_ContainsFunc.gok : GOkI Tryz.prog I slices_ContainsFunc.g := (GOkI.nil _ _).cons slices_IndexFunc.ok
noncomputable def slices_ContainsFunc.i : FI := ⟨Tryz.f85, body Tryz.f85, (.seq .nil (.seq .nil .nil)), [], [], [.res (.tmp 4) (.v .bool)]⟩
noncomputable def slices_ContainsFunc.sp : CSpec := mkSpec slices_ContainsFunc.g T slices_ContainsFunc.i
theorem slices_ContainsFunc.ok : SpecOk Tryz.prog I 85 slices_ContainsFunc.sp := mkSpec_ok hmix hI slices_ContainsFunc.gok tok slices_ContainsFunc.i Tryz.func85 (by kernel_rfl) (by kernel_rfl) (by kernel_rfl) (by kernel_rfl)
noncomputable def slices_ContainsFunc.f (x0 : List Int) (x1_0 : Int) (x1_1 : Int) : Option (Bool) := run slices_ContainsFunc.g T slices_ContainsFunc.i [.v (.slice (.int .i64)) x0, .clo (closure impl_areBetween_1.sp [.cr (.int .i64) x1_0, .cr (.int .i64) x1_1])]
theorem slices_ContainsFunc.f.eq (x0 : List Int) (x1_0 : Int) (x1_1 : Int) : slices_ContainsFunc.f x0 x1_0 x1_1 =
  (slices_IndexFunc.f x0 x1_0 x1_1).bind fun y1 =>
  some (decide (y1 ≥ 0)) := by kernel_rfl
noncomputable def impl_areBetween.g : Gam := [(85, slices_ContainsFunc.sp), (86, impl_areBetween_1.sp)]
theorem impl_areBetween.gok : GOkI Tryz.prog I impl_areBetween.g := ((GOkI.nil _ _).cons impl_areBetween_1.ok).cons slices_ContainsFunc.ok
noncomputable def impl_areBetween.i : FI := ⟨Tryz.f67, body Tryz.f67, (.seq .nil (.seq .nil .nil)), [], [], [.res (.tmp 6) (.v .bool)]⟩
noncomputable def impl_areBetween.sp : CSpec := mkSpec impl_areBetween.g T impl_areBetween.i
theorem impl_areBetween.ok : SpecOk Tryz.prog I 67 impl_areBetween.sp := mkSpec_ok hmix hI impl_areBetween.gok tok impl_areBetween.i Tryz.func67 (by kernel_rfl) (by kernel_rfl) (by kernel_rfl) (by kernel_rfl)
noncomputable def impl_areBetween.f (x0 : List Int) (x1 : Int) (x2 : Int) : Option (Bool) := run impl_areBetween.g T impl_areBetween.i [.v (.slice (.int .i64)) x0, .v (.int .i64) x1, .v (.int .i64) x2]
theorem impl_areBetween.f.eq (x0 : List Int) (x1 : Int) (x2 : Int) : impl_areBetween.f x0 x1 x2 =
  (slices_ContainsFunc.f x0 x1 x2).bind fun y1 =>
  some (!y1) := by kernel_rfl
noncomputable def impl_areHidden.g : Gam := [(37, impl_between.sp), (67, impl_areBetween.sp)]
theorem impl_areHidden.gok : GOkI Tryz.prog I impl_areHidden.g := ((GOkI.nil _ _).cons impl_areBetween.ok).cons impl_between.ok
noncomputable def impl_areHidden.i : FI := ⟨Tryz.f36, body Tryz.f36, (.seq .nil (.seq .nil .nil)), [], [], [.res (.tmp 2) (.v .bool)]⟩
noncomputable def impl_areHidden.sp : CSpec := mkSpec impl_areHidden.g T impl_areHidden.i
theorem impl_areHidden.ok : SpecOk Tryz.prog I 36 impl_areHidden.sp := mkSpec_ok hmix hI impl_areHidden.gok tok impl_areHidden.i Tryz.func36 (by kernel_rfl) (by kernel_rfl) (by kernel_rfl) (by kernel_rfl)
noncomputable def impl_areHidden.f (x0 : List Int) : Option (Bool) := run impl_areHidden.g T impl_areHidden.i [.v (.slice (.int .i64)) x0]
theorem impl_areHidden.f.eq (x0 : List Int) : impl_areHidden.f x0 =
  (impl_between.f (x0.length : Int) 2 3).bind fun y2 =>
  if y2 = true then
    (impl_areBetween.f x0 1 12).bind fun y3 =>
    some (if true = true then y3 else false)
  else
    some false := by kernel_rfl
noncomputable def impl_MakePuzzle_1.g : Gam := []
theorem impl_MakePuzzle_1.gok : GOkI Tryz.prog I impl_MakePuzzle_1.g := GOkI.nil _ _
noncomputable def impl_MakePuzzle_1.i : FI := ⟨Tryz.f38, body Tryz.f38, (.seq .nil (.seq .nil (.seq .nil .nil))), [], [1000000], [.res (.tmp 1) (.v (.int .i64)), .box 1000000 0 (.v (.int .i64))]⟩
noncomputable def impl_MakePuzzle_1.sp : CSpec := mkSpec impl_MakePuzzle_1.g T impl_MakePuzzle_1.i
theorem impl_MakePuzzle_1.ok : SpecOk Tryz.prog I 38 impl_MakePuzzle_1.sp := mkSpec_ok hmix hI impl_MakePuzzle_1.gok tok impl_MakePuzzle_1.i Tryz.func38 (by kernel_rfl) (by kernel_rfl) (by kernel_rfl) (by kernel_rfl)
noncomputable def impl_MakePuzzle_1.f (x0_0 : Int) : Option (Int × Int) := run impl_MakePuzzle_1.g T impl_MakePuzzle_1.i [.bx [⟨(.int .i64), x0_0⟩]]
theorem impl_MakePuzzle_1.f.eq (x0_0 : Int) : impl_MakePuzzle_1.f x0_0 =
  let y3 := (IntKind.i64.wrap ((IntKind.i64.wrap (x0_0 * 299)) + 811)).tmod 10007
  some (y3, y3) := by kernel_rfl
noncomputable def impl_total.g : Gam := []
theorem impl_total.gok : GOkI Tryz.prog I impl_total.g := GOkI.nil _ _
noncomputable def impl_total.i : FI := ⟨Tryz.f45, body Tryz.f45, (.seq .nil (.seq .nil (.seq (.seq .nil (.blk (.loop [3, 6, 7, 8] [] (.seq .nil (.seq (.cond .nil .nil) (.seq (.blk (.seq .nil .nil)) .nil)))))) (.seq .nil .nil)))), [], [], [.res (.tmp 2) (.v (.int .i64))]⟩
noncomputable def impl_total.sp : CSpec := mkSpec impl_total.g T impl_total.i
theorem impl_total.ok : SpecOk Tryz.prog I 45 impl_total.sp := mkSpec_ok hmix hI impl_total.gok tok impl_total.i Tryz.func45 (by kernel_rfl) (by kernel_rfl) (by kernel_rfl) (by kernel_rfl)
noncomputable def impl_total.f (x0 : List Int) : Option (Int) := run impl_total.g T impl_total.i [.v (.slice (.int .i64)) x0]
noncomputable def impl_total.l0 (x3 : Int) (x6 : List Int) (x7 : Int) (x8 : Int) : Option (Int) := runAt impl_total.g T impl_total.i [true, true, false, true, false] [(3, .val (.int .i64) x3), (6, .val (.slice (.int .i64)) x6), (7, .val (.int .i64) x7), (8, .val (.int .i64) x8)] []
theorem impl_total.f.eq (x0 : List Int) : impl_total.f x0 =
  impl_total.l0 0 x0 (x0.length : Int) 0 := by kernel_rfl
theorem impl_total.l0.eq (x3 : Int) (x6 : List Int) (x7 : Int) (x8 : Int) : impl_total.l0 x3 x6 x7 x8 =
  if (decide (x8 < x7)) = true then
    (rdI x6 x8).bind fun y2 =>
    impl_total.l0 (IntKind.i64.wrap (x3 + y2)) x6 x7 (IntKind.i64.wrap (x8 + 1))
  else
    some x3 := (runAt_loop _ _ _ _ _ _).trans (by kernel_rfl)
noncomputable def impl_product.g : Gam := []
theorem impl_product.gok : GOkI Tryz.prog I impl_product.g := GOkI.nil _ _
noncomputable def impl_product.i : FI := ⟨Tryz.f47, body Tryz.f47, (.seq .nil (.seq .nil (.seq (.seq .nil (.blk (.loop [3, 6, 7, 8] [] (.seq .nil (.seq (.cond .nil .nil) (.seq (.blk (.seq .nil .nil)) .nil)))))) (.seq .nil .nil)))), [], [], [.res (.tmp 2) (.v (.int .i64))]⟩
noncomputable def impl_product.sp : CSpec := mkSpec impl_product.g T impl_product.i
theorem impl_product.ok : SpecOk Tryz.prog I 47 impl_product.sp := mkSpec_ok hmix hI impl_product.gok tok impl_product.i Tryz.func47 (by kernel_rfl) (by kernel_rfl) (by kernel_rfl) (by kernel_rfl)
noncomputable def impl_product.f (x0 : List Int) : Option (Int) := run impl_product.g T impl_product.i [.v (.slice (.int .i64)) x0]
noncomputable def impl_product.l0 (x3 : Int) (x6 : List Int) (x7 : Int) (x8 : Int) : Option (Int) := runAt impl_product.g T impl_product.i [true, true, false, true, false] [(3, .val (.int .i64) x3), (6, .val (.slice (.int .i64)) x6), (7, .val (.int .i64) x7), (8, .val (.int .i64) x8)] []
theorem impl_product.f.eq (x0 : List Int) : impl_product.f x0 =
  impl_product.l0 1 x0 (x0.length : Int) 0 := by kernel_rfl
theorem impl_product.l0.eq (x3 : Int) (x6 : List Int) (x7 : Int) (x8 : Int) : impl_product.l0 x3 x6 x7 x8 =
  if (decide (x8 < x7)) = true then
    (rdI x6 x8).bind fun y2 =>
    impl_product.l0 (IntKind.i64.wrap (x3 * y2)) x6 x7 (IntKind.i64.wrap (x8 + 1))
  else
    some x3 := (runAt_loop _ _ _ _ _ _).trans (by kernel_rfl)
noncomputable def impl_productOf.g : Gam := [(47, impl_product.sp)]
theorem impl_productOf.gok : GOkI Tryz.prog I impl_productOf.g := (GOkI.nil _ _).cons impl_product.ok
noncomputable def impl_productOf.i : FI := ⟨Tryz.f68, body Tryz.f68, (.seq .nil (.seq .nil .nil)), [], [], [.res (.tmp 2) (.v (.int .i64))]⟩
noncomputable def impl_productOf.sp : CSpec := mkSpec impl_productOf.g T impl_productOf.i
theorem impl_productOf.ok : SpecOk Tryz.prog I 68 impl_productOf.sp := mkSpec_ok hmix hI impl_productOf.gok tok impl_productOf.i Tryz.func68 (by kernel_rfl) (by kernel_rfl) (by kernel_rfl) (by kernel_rfl)
noncomputable def impl_productOf.f (x0 : List Int) : Option (Int) := run impl_productOf.g T impl_productOf.i [.v (.slice (.int .i64)) x0]
theorem impl_productOf.f.eq (x0 : List Int) : impl_productOf.f x0 =
  (impl_product.f x0).bind fun y1 =>
  some y1 := by kernel_rfl
noncomputable def impl_bit.g : Gam := []
theorem impl_bit.gok : GOkI Tryz.prog I impl_bit.g := GOkI.nil _ _
noncomputable def impl_bit.i : FI := ⟨Tryz.f69, body Tryz.f69, (.seq .nil (.seq (.seq .nil (.cond (.seq .nil .nil) .nil)) (.seq .nil .nil))), [], [], [.res (.tmp 2) (.v (.int .i64))]⟩
noncomputable def impl_bit.sp : CSpec := mkSpec impl_bit.g T impl_bit.i
theorem impl_bit.ok : SpecOk Tryz.prog I 69 impl_bit.sp := mkSpec_ok hmix hI impl_bit.gok tok impl_bit.i Tryz.func69 (by kernel_rfl) (by kernel_rfl) (by kernel_rfl) (by kernel_rfl)
noncomputable def impl_bit.f (x0 : Bool) : Option (Int) := run impl_bit.g T impl_bit.i [.v .bool x0]
theorem impl_bit.f.eq (x0 : Bool) : impl_bit.f x0 =
  if x0 = true then
    some 1
  else
    some 0 := by kernel_rfl
noncomputable def impl_isPrime.g : Gam := []
theorem impl_isPrime.gok : GOkI Tryz.prog I impl_isPrime.g := GOkI.nil _ _
noncomputable def impl_isPrime.i : FI := ⟨Tryz.f90, body Tryz.f90, (.seq .nil (.seq (.seq .nil (.blk (.loop [0, 3] [] (.seq (.seq .nil (.cond .nil .nil)) (.seq (.blk (.seq .nil (.cond (.seq .nil .nil) .nil))) .nil))))) (.seq .nil .nil))), [], [], [.res (.tmp 2) (.v .bool)]⟩
noncomputable def impl_isPrime.sp : CSpec := mkSpec impl_isPrime.g T impl_isPrime.i
theorem impl_isPrime.ok : SpecOk Tryz.prog I 90 impl_isPrime.sp := mkSpec_ok hmix hI impl_isPrime.gok tok impl_isPrime.i Tryz.func90 (by kernel_rfl) (by kernel_rfl) (by kernel_rfl) (by kernel_rfl)
noncomputable def impl_isPrime.f (x0 : Int) : Option (Bool) := run impl_isPrime.g T impl_isPrime.i [.v (.int .i64) x0]
noncomputable def impl_isPrime.l0 (x0 : Int) (x3 : Int) : Option (Bool) := runAt impl_isPrime.g T impl_isPrime.i [true, false, true, false] [(0, .val (.int .i64) x0), (3, .val (.int .i64) x3)] []
theorem impl_isPrime.f.eq (x0 : Int) : impl_isPrime.f x0 =
  impl_isPrime.l0 x0 2 := by kernel_rfl
theorem impl_isPrime.l0.eq (x0 : Int) (x3 : Int) : impl_isPrime.l0 x0 x3 =
  if (decide ((IntKind.i64.wrap (x3 * x3)) ≤ x0)) = true then
    if x3 = 0 then
      none
    else
      if ((x0.tmod x3) == 0) = true then
        some false
      else
        impl_isPrime.l0 x0 (IntKind.i64.wrap (x3 + 1))
  else
    some (decide (x0 > 1)) := (runAt_loop _ _ _ _ _ _).trans (by kernel_rfl)
noncomputable def impl_ofKind_1.g : Gam := []
theorem impl_ofKind_1.gok : GOkI Tryz.prog I impl_ofKind_1.g := GOkI.nil _ _
noncomputable def impl_ofKind_1.i : FI := ⟨Tryz.f92, body Tryz.f92, (.seq .nil (.seq .nil .nil)), [], [], [.res (.tmp 2) (.v (.int .i64))]⟩
noncomputable def impl_ofKind_1.sp : CSpec := mkSpec impl_ofKind_1.g T impl_ofKind_1.i
theorem impl_ofKind_1.ok : SpecOk Tryz.prog I 92 impl_ofKind_1.sp := mkSpec_ok hmix hI impl_ofKind_1.gok tok impl_ofKind_1.i Tryz.func92 (by kernel_rfl) (by kernel_rfl) (by kernel_rfl) (by kernel_rfl)
noncomputable def impl_ofKind_1.f (x0 : Int) : Option (Int) := run impl_ofKind_1.g T impl_ofKind_1.i [.v (.int .i64) x0]
theorem impl_ofKind_1.f.eq (x0 : Int) : impl_ofKind_1.f x0 =
  some (IntKind.i64.wrap (x0 * x0)) := by kernel_rfl
noncomputable def impl_ofKind_2.g : Gam := []
theorem impl_ofKind_2.gok : GOkI Tryz.prog I impl_ofKind_2.g := GOkI.nil _ _
noncomputable def impl_ofKind_2.i : FI := ⟨Tryz.f93, body Tryz.f93, (.seq .nil (.seq .nil .nil)), [], [], [.res (.tmp 2) (.v (.int .i64))]⟩
noncomputable def impl_ofKind_2.sp : CSpec := mkSpec impl_ofKind_2.g T impl_ofKind_2.i
theorem impl_ofKind_2.ok : SpecOk Tryz.prog I 93 impl_ofKind_2.sp := mkSpec_ok hmix hI impl_ofKind_2.gok tok impl_ofKind_2.i Tryz.func93 (by kernel_rfl) (by kernel_rfl) (by kernel_rfl) (by kernel_rfl)
noncomputable def impl_ofKind_2.f (x0 : Int) : Option (Int) := run impl_ofKind_2.g T impl_ofKind_2.i [.v (.int .i64) x0]
theorem impl_ofKind_2.f.eq (x0 : Int) : impl_ofKind_2.f x0 =
  some (IntKind.i64.wrap ((IntKind.i64.wrap (x0 * x0)) * x0)) := by kernel_rfl
noncomputable def impl_ofKind_3.g : Gam := []
theorem impl_ofKind_3.gok : GOkI Tryz.prog I impl_ofKind_3.g := GOkI.nil _ _
noncomputable def impl_ofKind_3.i : FI := ⟨Tryz.f94, body Tryz.f94, (.seq .nil (.seq .nil .nil)), [], [], [.res (.tmp 2) (.v (.int .i64))]⟩
noncomputable def impl_ofKind_3.sp : CSpec := mkSpec impl_ofKind_3.g T impl_ofKind_3.i
theorem impl_ofKind_3.ok : SpecOk Tryz.prog I 94 impl_ofKind_3.sp := mkSpec_ok hmix hI impl_ofKind_3.gok tok impl_ofKind_3.i Tryz.func94 (by kernel_rfl) (by kernel_rfl) (by kernel_rfl) (by kernel_rfl)
noncomputable def impl_ofKind_3.f (x0 : Int) : Option (Int) := run impl_ofKind_3.g T impl_ofKind_3.i [.v (.int .i64) x0]
theorem impl_ofKind_3.f.eq (x0 : Int) : impl_ofKind_3.f x0 =
  some (IntKind.i64.wrap ((IntKind.i64.wrap (x0 * (IntKind.i64.wrap (x0 + 1)))).tdiv 2)) := by kernel_rfl
noncomputable def impl_isMade.g : Gam := [(92, impl_ofKind_1.sp), (93, impl_ofKind_2.sp), (94, impl_ofKind_3.sp)]
theorem impl_isMade.gok : GOkI Tryz.prog I impl_isMade.g := (((GOkI.nil _ _).cons impl_ofKind_3.ok).cons impl_ofKind_2.ok).cons impl_ofKind_1.ok
noncomputable def impl_isMade.i : FI := ⟨Tryz.f91, body Tryz.f91, (.seq .nil (.seq .nil (.seq (.blk (.loop [0, 1, 5] [] (.seq (.seq .nil (.cond .nil .nil)) (.blk .nil)))) (.seq .nil .nil)))), [], [], [.res (.tmp 4) (.v .bool)]⟩
noncomputable def impl_isMade.sp : CSpec := mkSpec impl_isMade.g T impl_isMade.i
theorem impl_isMade.ok : SpecOk Tryz.prog I 91 impl_isMade.sp := mkSpec_ok hmix hI impl_isMade.gok tok impl_isMade.i Tryz.func91 (by kernel_rfl) (by kernel_rfl) (by kernel_rfl) (by kernel_rfl)
noncomputable def impl_isMade.f (x0 : Int) : Option (Bool) := run impl_isMade.g T impl_isMade.i [.v (.int .i64) x0, .clo (closure impl_ofKind_1.sp [])]
noncomputable def impl_isMade.l0 (x0 : Int) (x5 : Int) : Option (Bool) := runAt impl_isMade.g T impl_isMade.i [true, true, false, false] [(0, .val (.int .i64) x0), (1, .clo (closure impl_ofKind_1.sp [])), (5, .val (.int .i64) x5)] []
theorem impl_isMade.f.eq (x0 : Int) : impl_isMade.f x0 =
  impl_isMade.l0 x0 0 := by kernel_rfl
theorem impl_isMade.l0.eq (x0 : Int) (x5 : Int) : impl_isMade.l0 x0 x5 =
  ((impl_ofKind_1.f x5).bind some).bind fun y1 =>
  if (decide (y1 < x0)) = true then
    impl_isMade.l0 x0 (IntKind.i64.wrap (x5 + 1))
  else
    ((impl_ofKind_1.f x5).bind some).bind fun y4 =>
    some (y4 == x0) := (runAt_loop _ _ _ _ _ _).trans (by kernel_rfl)
noncomputable def impl_isMade_v1.f (x0 : Int) : Option (Bool) := run impl_isMade.g T impl_isMade.i [.v (.int .i64) x0, .clo (closure impl_ofKind_2.sp [])]
noncomputable def impl_isMade_v1.l0 (x0 : Int) (x5 : Int) : Option (Bool) := runAt impl_isMade.g T impl_isMade.i [true, true, false, false] [(0, .val (.int .i64) x0), (1, .clo (closure impl_ofKind_2.sp [])), (5, .val (.int .i64) x5)] []
theorem impl_isMade_v1.f.eq (x0 : Int) : impl_isMade_v1.f x0 =
  impl_isMade_v1.l0 x0 0 := by kernel_rfl
theorem impl_isMade_v1.l0.eq (x0 : Int) (x5 : Int) : impl_isMade_v1.l0 x0 x5 =
  ((impl_ofKind_2.f x5).bind some).bind fun y1 =>
  if (decide (y1 < x0)) = true then
    impl_isMade_v1.l0 x0 (IntKind.i64.wrap (x5 + 1))
  else
    ((impl_ofKind_2.f x5).bind some).bind fun y4 =>
    some (y4 == x0) := (runAt_loop _ _ _ _ _ _).trans (by kernel_rfl)
noncomputable def impl_isMade_v2.f (x0 : Int) : Option (Bool) := run impl_isMade.g T impl_isMade.i [.v (.int .i64) x0, .clo (closure impl_ofKind_3.sp [])]
noncomputable def impl_isMade_v2.l0 (x0 : Int) (x5 : Int) : Option (Bool) := runAt impl_isMade.g T impl_isMade.i [true, true, false, false] [(0, .val (.int .i64) x0), (1, .clo (closure impl_ofKind_3.sp [])), (5, .val (.int .i64) x5)] []
theorem impl_isMade_v2.f.eq (x0 : Int) : impl_isMade_v2.f x0 =
  impl_isMade_v2.l0 x0 0 := by kernel_rfl
theorem impl_isMade_v2.l0.eq (x0 : Int) (x5 : Int) : impl_isMade_v2.l0 x0 x5 =
  ((impl_ofKind_3.f x5).bind some).bind fun y1 =>
  if (decide (y1 < x0)) = true then
    impl_isMade_v2.l0 x0 (IntKind.i64.wrap (x5 + 1))
  else
    ((impl_ofKind_3.f x5).bind some).bind fun y4 =>
    some (y4 == x0) := (runAt_loop _ _ _ _ _ _).trans (by kernel_rfl)
noncomputable def impl_areAlike.g : Gam := []
theorem impl_areAlike.gok : GOkI Tryz.prog I impl_areAlike.g := GOkI.nil _ _
noncomputable def impl_areAlike.i : FI := ⟨Tryz.f95, body Tryz.f95, (.seq .nil (.seq (.seq .nil (.blk (.loop [0, 3] [] (.seq (.seq .nil (.cond .nil .nil)) (.seq (.blk (.seq .nil (.cond (.seq .nil .nil) .nil))) .nil))))) (.seq .nil .nil))), [], [], [.res (.tmp 2) (.v .bool)]⟩
noncomputable def impl_areAlike.sp : CSpec := mkSpec impl_areAlike.g T impl_areAlike.i
theorem impl_areAlike.ok : SpecOk Tryz.prog I 95 impl_areAlike.sp := mkSpec_ok hmix hI impl_areAlike.gok tok impl_areAlike.i Tryz.func95 (by kernel_rfl) (by kernel_rfl) (by kernel_rfl) (by kernel_rfl)
noncomputable def impl_areAlike.f (x0 : Int) : Option (Bool) := run impl_areAlike.g T impl_areAlike.i [.v (.int .i64) x0]
noncomputable def impl_areAlike.l0 (x0 : Int) (x3 : Int) : Option (Bool) := runAt impl_areAlike.g T impl_areAlike.i [true, false, true, false] [(0, .val (.int .i64) x0), (3, .val (.int .i64) x3)] []
theorem impl_areAlike.f.eq (x0 : Int) : impl_areAlike.f x0 =
  impl_areAlike.l0 x0 x0 := by kernel_rfl
theorem impl_areAlike.l0.eq (x0 : Int) (x3 : Int) : impl_areAlike.l0 x0 x3 =
  if (decide (x3 ≥ 10)) = true then
    if ((x3.tmod 10) != ((IntKind.i64.wrap (x3.tdiv 10)).tmod 10)) = true then
      some false
    else
      impl_areAlike.l0 x0 (IntKind.i64.wrap (x3.tdiv 10))
  else
    some (decide (x0 ≥ 10)) := (runAt_loop _ _ _ _ _ _).trans (by kernel_rfl)
noncomputable def impl_ofKind.g : Gam := [(90, impl_isPrime.sp), (91, impl_isMade.sp), (95, impl_areAlike.sp), (92, impl_ofKind_1.sp), (93, impl_ofKind_2.sp), (94, impl_ofKind_3.sp)]
theorem impl_ofKind.gok : GOkI Tryz.prog I impl_ofKind.g := ((((((GOkI.nil _ _).cons impl_ofKind_3.ok).cons impl_ofKind_2.ok).cons impl_ofKind_1.ok).cons impl_areAlike.ok).cons impl_isMade.ok).cons impl_isPrime.ok
noncomputable def impl_ofKind.i : FI := ⟨Tryz.f76, body Tryz.f76, (.seq .nil (.seq (.seq .nil (.blk (.seq .nil (.cond (.seq .nil .nil) (.seq .nil (.cond (.seq .nil .nil) (.seq .nil (.cond (.seq .nil .nil) (.seq .nil (.cond (.seq .nil .nil) (.seq .nil (.cond (.seq .nil .nil) .nil)))))))))))) (.seq .nil .nil))), [], [], [.res (.tmp 4) (.v .bool)]⟩
noncomputable def impl_ofKind.sp : CSpec := mkSpec impl_ofKind.g T impl_ofKind.i
theorem impl_ofKind.ok : SpecOk Tryz.prog I 76 impl_ofKind.sp := mkSpec_ok hmix hI impl_ofKind.gok tok impl_ofKind.i Tryz.func76 (by kernel_rfl) (by kernel_rfl) (by kernel_rfl) (by kernel_rfl)
noncomputable def impl_ofKind.f (x0 : Int) (x1 : List UInt8) : Option (Bool) := run impl_ofKind.g T impl_ofKind.i [.v (.int .i64) x0, .v .str x1]
theorem impl_ofKind.f.eq (x0 : Int) (x1 : List UInt8) : impl_ofKind.f x0 x1 =
  if (x1 == [112]) = true then
    (impl_isPrime.f x0).bind fun y2 =>
    some y2
  else
    if (x1 == [115]) = true then
      (impl_isMade.f x0).bind fun y4 =>
      some y4
    else
      if (x1 == [99]) = true then
        (impl_isMade_v1.f x0).bind fun y6 =>
        some y6
      else
        if (x1 == [116]) = true then
          (impl_isMade_v2.f x0).bind fun y8 =>
          some y8
        else
          if (x1 == [100]) = true then
            (impl_areAlike.f x0).bind fun y10 =>
            some y10
          else
            if (decide (x0 ≥ 10)) = true then
              some (if true = true then (x0.tmod 10) == 0 else false)
            else
              some false := by kernel_rfl
noncomputable def impl_countOf.g : Gam := [(76, impl_ofKind.sp)]
theorem impl_countOf.gok : GOkI Tryz.prog I impl_countOf.g := (GOkI.nil _ _).cons impl_ofKind.ok
noncomputable def impl_countOf.i : FI := ⟨Tryz.f49, body Tryz.f49, (.seq .nil (.seq .nil (.seq (.seq .nil (.blk (.loop [1, 5, 8, 9, 10] [] (.seq .nil (.seq (.cond .nil .nil) (.seq (.blk (.seq .nil (.seq .nil (.cond .nil .nil)))) .nil)))))) (.seq .nil .nil)))), [], [], [.res (.tmp 4) (.v (.int .i64))]⟩
noncomputable def impl_countOf.sp : CSpec := mkSpec impl_countOf.g T impl_countOf.i
theorem impl_countOf.ok : SpecOk Tryz.prog I 49 impl_countOf.sp := mkSpec_ok hmix hI impl_countOf.gok tok impl_countOf.i Tryz.func49 (by kernel_rfl) (by kernel_rfl) (by kernel_rfl) (by kernel_rfl)
noncomputable def impl_countOf.f (x0 : List Int) (x1 : List UInt8) : Option (Int) := run impl_countOf.g T impl_countOf.i [.v (.slice (.int .i64)) x0, .v .str x1]
noncomputable def impl_countOf.l0 (x1 : List UInt8) (x5 : Int) (x8 : List Int) (x9 : Int) (x10 : Int) : Option (Int) := runAt impl_countOf.g T impl_countOf.i [true, true, false, true, false] [(1, .val .str x1), (5, .val (.int .i64) x5), (8, .val (.slice (.int .i64)) x8), (9, .val (.int .i64) x9), (10, .val (.int .i64) x10)] []
theorem impl_countOf.f.eq (x0 : List Int) (x1 : List UInt8) : impl_countOf.f x0 x1 =
  impl_countOf.l0 x1 0 x0 (x0.length : Int) 0 := by kernel_rfl
theorem impl_countOf.l0.eq (x1 : List UInt8) (x5 : Int) (x8 : List Int) (x9 : Int) (x10 : Int) : impl_countOf.l0 x1 x5 x8 x9 x10 =
  if (decide (x10 < x9)) = true then
    (rdI x8 x10).bind fun y2 =>
    (impl_ofKind.f y2 x1).bind fun y3 =>
    if y3 = true then
      impl_countOf.l0 x1 (IntKind.i64.wrap (x5 + 1)) x8 x9 (IntKind.i64.wrap (x10 + 1))
    else
      impl_countOf.l0 x1 x5 x8 x9 (IntKind.i64.wrap (x10 + 1))
  else
    some x5 := (runAt_loop _ _ _ _ _ _).trans (by kernel_rfl)
noncomputable def impl_inYears.g : Gam := []
theorem impl_inYears.gok : GOkI Tryz.prog I impl_inYears.g := GOkI.nil _ _
noncomputable def impl_inYears.i : FI := ⟨Tryz.f70, body Tryz.f70, (.seq .nil (.seq .nil (.seq (.seq .nil (.blk (.loop [1, 5, 9, 10, 11] [] (.seq .nil (.seq (.cond .nil .nil) (.seq (.blk (.seq .nil .nil)) .nil)))))) (.seq .nil .nil)))), [], [], [.res (.tmp 4) (.own 3 (.int .i64))]⟩
noncomputable def impl_inYears.sp : CSpec := mkSpec impl_inYears.g T impl_inYears.i
theorem impl_inYears.ok : SpecOk Tryz.prog I 70 impl_inYears.sp := mkSpec_ok hmix hI impl_inYears.gok tok impl_inYears.i Tryz.func70 (by kernel_rfl) (by kernel_rfl) (by kernel_rfl) (by kernel_rfl)
noncomputable def impl_inYears.f (x0 : List Int) (x1 : Int) : Option (List Int) := run impl_inYears.g T impl_inYears.i [.v (.slice (.int .i64)) x0, .v (.int .i64) x1]
noncomputable def impl_inYears.l0 (x1 : Int) (x5 : List Int) (x9 : List Int) (x10 : Int) (x11 : Int) : Option (List Int) := runAt impl_inYears.g T impl_inYears.i [true, true, false, true, false] [(1, .val (.int .i64) x1), (5, .own 3 (.int .i64) x5), (9, .val (.slice (.int .i64)) x9), (10, .val (.int .i64) x10), (11, .val (.int .i64) x11)] []
theorem impl_inYears.f.eq (x0 : List Int) (x1 : Int) : impl_inYears.f x0 x1 =
  impl_inYears.l0 x1 [] x0 (x0.length : Int) 0 := by kernel_rfl
theorem impl_inYears.l0.eq (x1 : Int) (x5 : List Int) (x9 : List Int) (x10 : Int) (x11 : Int) : impl_inYears.l0 x1 x5 x9 x10 x11 =
  if (decide (x11 < x10)) = true then
    (rdI x9 x11).bind fun y2 =>
    (catI (appMax 8) x5 [(IntKind.i64.wrap (y2 + x1))]).bind fun y4 =>
    impl_inYears.l0 x1 y4 x9 x10 (IntKind.i64.wrap (x11 + 1))
  else
    some x5 := (runAt_loop _ _ _ _ _ _).trans (by kernel_rfl)
noncomputable def impl_tells.g : Gam := [(45, impl_total.sp), (68, impl_productOf.sp), (69, impl_bit.sp), (49, impl_countOf.sp), (70, impl_inYears.sp)]
theorem impl_tells.gok : GOkI Tryz.prog I impl_tells.g := (((((GOkI.nil _ _).cons impl_inYears.ok).cons impl_countOf.ok).cons impl_bit.ok).cons impl_productOf.ok).cons impl_total.ok
noncomputable def impl_tells.i : FI := ⟨Tryz.f39, body Tryz.f39, (.seq .nil (.seq .nil (.seq (.seq .nil (.blk (.seq .nil (.cond (.seq .nil .nil) (.seq .nil (.cond (.seq .nil .nil) (.seq .nil (.cond (.seq .nil .nil) (.seq .nil (.cond (.seq .nil .nil) (.seq .nil (.cond (.seq .nil .nil) (.seq .nil (.cond (.seq .nil .nil) .nil)))))))))))))) (.seq .nil .nil)))), [], [], [.res (.tmp 6) (.v (.int .i64))]⟩
noncomputable def impl_tells.sp : CSpec := mkSpec impl_tells.g T impl_tells.i
theorem impl_tells.ok : SpecOk Tryz.prog I 39 impl_tells.sp := mkSpec_ok hmix hI impl_tells.gok tok impl_tells.i Tryz.func39 (by kernel_rfl) (by kernel_rfl) (by kernel_rfl) (by kernel_rfl)
noncomputable def impl_tells.f (x0 : Int) (x1 : Int) (x2 : List Int) : Option (Int) := run impl_tells.g T impl_tells.i [.v (.int .i64) x0, .v (.int .i64) x1, .v (.slice (.int .i64)) x2]
theorem impl_tells.f.eq (x0 : Int) (x1 : Int) (x2 : List Int) : impl_tells.f x0 x1 x2 =
  if (x2.length : Int) = 0 then
    none
  else
    (rdI x2 ((IntKind.i64.wrap (x1 + 1)).tmod (x2.length : Int))).bind fun y4 =>
    if (x0 == 0) = true then
      (impl_total.f x2).bind fun y5 =>
      some y5
    else
      if (x0 == 1) = true then
        (rdI x2 x1).bind fun y6 =>
        some y6
      else
        if (x0 == 2) = true then
          (impl_productOf.f x2).bind fun y7 =>
          some y7
        else
          if (x0 == 3) = true then
            (rdI x2 x1).bind fun y8 =>
            (impl_bit.f (decide (y8 > y4))).bind fun y10 =>
            some y10
          else
            if (x0 == 4) = true then
              (impl_countOf.f x2 [112]).bind fun y11 =>
              some y11
            else
              if (x0 == 5) = true then
                (rdI x2 x1).bind fun y12 =>
                if y4 = 0 then
                  none
                else
                  (impl_bit.f ((y12.tmod y4) == 0)).bind fun y14 =>
                  some y14
              else
                (impl_inYears.f x2 x1).bind fun y15 =>
                (impl_total.f y15).bind fun y16 =>
                some y16 := by kernel_rfl
noncomputable def impl_MakePuzzle.g : Gam := [(36, impl_areHidden.sp), (38, impl_MakePuzzle_1.sp), (39, impl_tells.sp), (37, impl_between.sp)]
theorem impl_MakePuzzle.gok : GOkI Tryz.prog I impl_MakePuzzle.g := ((((GOkI.nil _ _).cons impl_between.ok).cons impl_tells.ok).cons impl_MakePuzzle_1.ok).cons impl_areHidden.ok
noncomputable def impl_MakePuzzle.i : FI := ⟨Tryz.f6, body Tryz.f6, (.seq .nil (.seq (.cut [0, 1, 2, 6, 25] [6] .nil (.cond (.seq .nil .nil) .nil)) (.seq .nil (.seq .nil (.seq (.seq .nil (.blk (.loop [0, 6, 8, 10, 32, 33] [6, 8, 9] (.seq .nil (.seq (.cond .nil .nil) (.seq (.blk (.seq .nil (.seq (.seq .nil (.seq .nil (.cond .nil .nil))) (.seq .nil .nil)))) .nil)))))) (.seq .nil .nil)))))), [3000029, 6000031], [], [.res (.cell 6 29) (.v (.pair (.int .i64) (.slice (.pair (.int .i64) (.pair (.int .i64) (.int .i64)))))), .res (.tmp 7) (.v .bool)]⟩
noncomputable def impl_MakePuzzle.sp : CSpec := mkSpec impl_MakePuzzle.g T impl_MakePuzzle.i
theorem impl_MakePuzzle.ok : SpecOk Tryz.prog I 6 impl_MakePuzzle.sp := mkSpec_ok hmix hI impl_MakePuzzle.gok tok impl_MakePuzzle.i Tryz.func6 (by kernel_rfl) (by kernel_rfl) (by kernel_rfl) (by kernel_rfl)
noncomputable def impl_MakePuzzle.f (x0 : List Int) (x1 : Int) (x2 : Int) : Option ((Int × (List (Int × Int × Int))) × Bool) := run impl_MakePuzzle.g T impl_MakePuzzle.i [.v (.slice (.int .i64)) x0, .v (.int .i64) x1, .v (.int .i64) x2]
noncomputable def impl_MakePuzzle.j0 (x0 : List Int) (x1 : Int) (x2 : Int) (x25 : Bool) (xb6_0 : Int) (xb6_1 : List (Int × Int × Int)) : Option ((Int × (List (Int × Int × Int))) × Bool) := runJ impl_MakePuzzle.g T impl_MakePuzzle.i [true, false, true] [(0, .val (.slice (.int .i64)) x0), (1, .val (.int .i64) x1), (2, .val (.int .i64) x2), (6, .ptr 6 0), (25, .val .bool x25)] [(6, [⟨(.int .i64), xb6_0⟩, ⟨(.slice (.pair (.int .i64) (.pair (.int .i64) (.int .i64)))), xb6_1⟩])]
noncomputable def impl_MakePuzzle.l0 (x0 : List Int) (x32 : Int) (x33 : Int) (xb6_0 : Int) (xb6_1 : List (Int × Int × Int)) (xb8_0 : Int) (xb8_1 : List (Int × Int × Int)) (xb9_0 : Int) : Option ((Int × (List (Int × Int × Int))) × Bool) := runAt impl_MakePuzzle.g T impl_MakePuzzle.i [true, true, true, true, false, true, false] [(0, .val (.slice (.int .i64)) x0), (6, .ptr 6 0), (8, .ptr 8 0), (10, .fn 0 38 [some 9]), (32, .val (.int .i64) x32), (33, .val (.int .i64) x33)] [(6, [⟨(.int .i64), xb6_0⟩, ⟨(.slice (.pair (.int .i64) (.pair (.int .i64) (.int .i64)))), xb6_1⟩]), (8, [⟨(.int .i64), xb8_0⟩, ownV 38 (.pair (.int .i64) (.pair (.int .i64) (.int .i64))) xb8_1]), (9, [⟨(.int .i64), xb9_0⟩])]
theorem impl_MakePuzzle.f.eq (x0 : List Int) (x1 : Int) (x2 : Int) : impl_MakePuzzle.f x0 x1 x2 =
  (impl_areHidden.f x0).bind fun y1 =>
  if (!y1) = true then
    impl_MakePuzzle.j0 x0 x1 x2 true 0 []
  else
    (impl_between.f x1 0 6).bind fun y14 =>
    if (if false = true then true else !y14) = true then
      impl_MakePuzzle.j0 x0 x1 x2 true 0 []
    else
      (impl_between.f x2 0 9999).bind fun y16 =>
      impl_MakePuzzle.j0 x0 x1 x2 (if false = true then true else !y16) 0 [] := by kernel_rfl
theorem impl_MakePuzzle.j0.eq (x0 : List Int) (x1 : Int) (x2 : Int) (x25 : Bool) (xb6_0 : Int) (xb6_1 : List (Int × Int × Int)) : impl_MakePuzzle.j0 x0 x1 x2 x25 xb6_0 xb6_1 =
  if x25 = true then
    some ((0, []), false)
  else
    impl_MakePuzzle.l0 x0 x1 0 xb6_0 xb6_1 (x0.length : Int) [] x2 := (runJ_eq _ _ _ _ _ _).trans (by kernel_rfl)
theorem impl_MakePuzzle.l0.eq (x0 : List Int) (x32 : Int) (x33 : Int) (xb6_0 : Int) (xb6_1 : List (Int × Int × Int)) (xb8_0 : Int) (xb8_1 : List (Int × Int × Int)) (xb9_0 : Int) : impl_MakePuzzle.l0 x0 x32 x33 xb6_0 xb6_1 xb8_0 xb8_1 xb9_0 =
  if (decide (x33 < x32)) = true then
    (impl_MakePuzzle_1.f xb9_0).bind fun y2 =>
    (impl_MakePuzzle_1.f y2.2).bind fun y4 =>
    if (((y2.1.tmod 6).tmod 2) == 1) = true then
      if (x0.length : Int) = 0 then
        none
      else
        let y7 := y4.1.tmod (x0.length : Int)
        (impl_tells.f (y2.1.tmod 6) y7 x0).bind fun y8 =>
        (catI (appMax 24) xb8_1 [((y2.1.tmod 6), y7, y8)]).bind fun y9 =>
        impl_MakePuzzle.l0 x0 x32 (IntKind.i64.wrap (x33 + 1)) xb6_0 xb6_1 xb8_0 y9 y4.2
    else
      (impl_tells.f (y2.1.tmod 6) 0 x0).bind fun y11 =>
      (catI (appMax 24) xb8_1 [((y2.1.tmod 6), 0, y11)]).bind fun y12 =>
      impl_MakePuzzle.l0 x0 x32 (IntKind.i64.wrap (x33 + 1)) xb6_0 xb6_1 xb8_0 y12 y4.2
  else
    some ((xb8_0, xb8_1), true) := (runAt_loop _ _ _ _ _ _).trans (by kernel_rfl)
noncomputable def spec_l1In.g : Gam := []
theorem spec_l1In.gok : GOkI Tryz.prog I spec_l1In.g := GOkI.nil _ _
noncomputable def spec_l1In.i : FI := ⟨Tryz.f41, body Tryz.f41, (.seq .nil (.seq .nil .nil)), [], [], [.res (.tmp 6) (.v .bool)]⟩
noncomputable def spec_l1In.sp : CSpec := mkSpec spec_l1In.g T spec_l1In.i
theorem spec_l1In.ok : SpecOk Tryz.prog I 41 spec_l1In.sp := mkSpec_ok hmix hI spec_l1In.gok tok spec_l1In.i Tryz.func41 (by kernel_rfl) (by kernel_rfl) (by kernel_rfl) (by kernel_rfl)
noncomputable def spec_l1In.f (x0 : Int) (x1 : Int) (x2 : Int) : Option (Bool) := run spec_l1In.g T spec_l1In.i [.v (.int .i64) x0, .v (.int .i64) x1, .v (.int .i64) x2]
theorem spec_l1In.f.eq (x0 : Int) (x1 : Int) (x2 : Int) : spec_l1In.f x0 x1 x2 =
  if (decide (x0 ≥ x1)) = true then
    some (if true = true then (decide (x0 ≤ x2)) else false)
  else
    some false := by kernel_rfl
noncomputable def spec_pzPeople.g : Gam := [(41, spec_l1In.sp)]
theorem spec_pzPeople.gok : GOkI Tryz.prog I spec_pzPeople.g := (GOkI.nil _ _).cons spec_l1In.ok
noncomputable def spec_pzPeople.i : FI := ⟨Tryz.f65, body Tryz.f65, (.seq .nil (.seq .nil .nil)), [], [], [.res (.tmp 2) (.v .bool)]⟩
noncomputable def spec_pzPeople.sp : CSpec := mkSpec spec_pzPeople.g T spec_pzPeople.i
theorem spec_pzPeople.ok : SpecOk Tryz.prog I 65 spec_pzPeople.sp := mkSpec_ok hmix hI spec_pzPeople.gok tok spec_pzPeople.i Tryz.func65 (by kernel_rfl) (by kernel_rfl) (by kernel_rfl) (by kernel_rfl)
noncomputable def spec_pzPeople.f (x0 : Int) : Option (Bool) := run spec_pzPeople.g T spec_pzPeople.i [.v (.int .i64) x0]
theorem spec_pzPeople.f.eq (x0 : Int) : spec_pzPeople.f x0 =
  (spec_l1In.f x0 2 3).bind fun y1 =>
  some y1 := by kernel_rfl
noncomputable def spec_l1All.g : Gam := [(41, spec_l1In.sp)]
theorem spec_l1All.gok : GOkI Tryz.prog I spec_l1All.g := (GOkI.nil _ _).cons spec_l1In.ok
noncomputable def spec_l1All.i : FI := ⟨Tryz.f71, body Tryz.f71, (.seq .nil (.seq (.seq .nil (.blk (.loop [1, 2, 9, 10, 11] [] (.seq .nil (.seq (.cond .nil .nil) (.seq (.blk (.seq .nil (.seq .nil (.cond (.seq .nil .nil) .nil)))) .nil)))))) (.seq .nil .nil))), [], [], [.res (.tmp 6) (.v .bool)]⟩
noncomputable def spec_l1All.sp : CSpec := mkSpec spec_l1All.g T spec_l1All.i
theorem spec_l1All.ok : SpecOk Tryz.prog I 71 spec_l1All.sp := mkSpec_ok hmix hI spec_l1All.gok tok spec_l1All.i Tryz.func71 (by kernel_rfl) (by kernel_rfl) (by kernel_rfl) (by kernel_rfl)
noncomputable def spec_l1All.f (x0 : List Int) (x1 : Int) (x2 : Int) : Option (Bool) := run spec_l1All.g T spec_l1All.i [.v (.slice (.int .i64)) x0, .v (.int .i64) x1, .v (.int .i64) x2]
noncomputable def spec_l1All.l0 (x1 : Int) (x2 : Int) (x9 : List Int) (x10 : Int) (x11 : Int) : Option (Bool) := runAt spec_l1All.g T spec_l1All.i [true, false, true, false] [(1, .val (.int .i64) x1), (2, .val (.int .i64) x2), (9, .val (.slice (.int .i64)) x9), (10, .val (.int .i64) x10), (11, .val (.int .i64) x11)] []
theorem spec_l1All.f.eq (x0 : List Int) (x1 : Int) (x2 : Int) : spec_l1All.f x0 x1 x2 =
  spec_l1All.l0 x1 x2 x0 (x0.length : Int) 0 := by kernel_rfl
theorem spec_l1All.l0.eq (x1 : Int) (x2 : Int) (x9 : List Int) (x10 : Int) (x11 : Int) : spec_l1All.l0 x1 x2 x9 x10 x11 =
  if (decide (x11 < x10)) = true then
    (rdI x9 x11).bind fun y2 =>
    (spec_l1In.f y2 x1 x2).bind fun y3 =>
    if (!y3) = true then
      some false
    else
      spec_l1All.l0 x1 x2 x9 x10 (IntKind.i64.wrap (x11 + 1))
  else
    some true := (runAt_loop _ _ _ _ _ _).trans (by kernel_rfl)
noncomputable def spec_pzHidden.g : Gam := [(65, spec_pzPeople.sp), (71, spec_l1All.sp)]
theorem spec_pzHidden.gok : GOkI Tryz.prog I spec_pzHidden.g := ((GOkI.nil _ _).cons spec_l1All.ok).cons spec_pzPeople.ok
noncomputable def spec_pzHidden.i : FI := ⟨Tryz.f40, body Tryz.f40, (.seq .nil (.seq .nil .nil)), [], [], [.res (.tmp 2) (.v .bool)]⟩
noncomputable def spec_pzHidden.sp : CSpec := mkSpec spec_pzHidden.g T spec_pzHidden.i
theorem spec_pzHidden.ok : SpecOk Tryz.prog I 40 spec_pzHidden.sp := mkSpec_ok hmix hI spec_pzHidden.gok tok spec_pzHidden.i Tryz.func40 (by kernel_rfl) (by kernel_rfl) (by kernel_rfl) (by kernel_rfl)
noncomputable def spec_pzHidden.f (x0 : List Int) : Option (Bool) := run spec_pzHidden.g T spec_pzHidden.i [.v (.slice (.int .i64)) x0]
theorem spec_pzHidden.f.eq (x0 : List Int) : spec_pzHidden.f x0 =
  (spec_pzPeople.f (x0.length : Int)).bind fun y2 =>
  if y2 = true then
    (spec_l1All.f x0 1 12).bind fun y3 =>
    some (if true = true then y3 else false)
  else
    some false := by kernel_rfl
noncomputable def spec_pzNext.g : Gam := []
theorem spec_pzNext.gok : GOkI Tryz.prog I spec_pzNext.g := GOkI.nil _ _
noncomputable def spec_pzNext.i : FI := ⟨Tryz.f42, body Tryz.f42, (.seq .nil (.seq .nil .nil)), [], [], [.res (.tmp 2) (.v (.int .i64))]⟩
noncomputable def spec_pzNext.sp : CSpec := mkSpec spec_pzNext.g T spec_pzNext.i
theorem spec_pzNext.ok : SpecOk Tryz.prog I 42 spec_pzNext.sp := mkSpec_ok hmix hI spec_pzNext.gok tok spec_pzNext.i Tryz.func42 (by kernel_rfl) (by kernel_rfl) (by kernel_rfl) (by kernel_rfl)
noncomputable def spec_pzNext.f (x0 : Int) : Option (Int) := run spec_pzNext.g T spec_pzNext.i [.v (.int .i64) x0]
theorem spec_pzNext.f.eq (x0 : Int) : spec_pzNext.f x0 =
  some ((IntKind.i64.wrap ((IntKind.i64.wrap (299 * x0)) + 811)).tmod 10007) := by kernel_rfl
noncomputable def spec_agSum.g : Gam := []
theorem spec_agSum.gok : GOkI Tryz.prog I spec_agSum.g := GOkI.nil _ _
noncomputable def spec_agSum.i : FI := ⟨Tryz.f84, body Tryz.f84, (.seq .nil (.seq .nil (.seq (.seq .nil (.blk (.loop [3, 6, 7, 8] [] (.seq .nil (.seq (.cond .nil .nil) (.seq (.blk (.seq .nil .nil)) .nil)))))) (.seq .nil .nil)))), [], [], [.res (.tmp 2) (.v (.int .i64))]⟩
noncomputable def spec_agSum.sp : CSpec := mkSpec spec_agSum.g T spec_agSum.i
theorem spec_agSum.ok : SpecOk Tryz.prog I 84 spec_agSum.sp := mkSpec_ok hmix hI spec_agSum.gok tok spec_agSum.i Tryz.func84 (by kernel_rfl) (by kernel_rfl) (by kernel_rfl) (by kernel_rfl)
noncomputable def spec_agSum.f (x0 : List Int) : Option (Int) := run spec_agSum.g T spec_agSum.i [.v (.slice (.int .i64)) x0]
noncomputable def spec_agSum.l0 (x3 : Int) (x6 : List Int) (x7 : Int) (x8 : Int) : Option (Int) := runAt spec_agSum.g T spec_agSum.i [true, true, false, true, false] [(3, .val (.int .i64) x3), (6, .val (.slice (.int .i64)) x6), (7, .val (.int .i64) x7), (8, .val (.int .i64) x8)] []
theorem spec_agSum.f.eq (x0 : List Int) : spec_agSum.f x0 =
  spec_agSum.l0 0 x0 (x0.length : Int) 0 := by kernel_rfl
theorem spec_agSum.l0.eq (x3 : Int) (x6 : List Int) (x7 : Int) (x8 : Int) : spec_agSum.l0 x3 x6 x7 x8 =
  if (decide (x8 < x7)) = true then
    (rdI x6 x8).bind fun y2 =>
    spec_agSum.l0 (IntKind.i64.wrap (x3 + y2)) x6 x7 (IntKind.i64.wrap (x8 + 1))
  else
    some x3 := (runAt_loop _ _ _ _ _ _).trans (by kernel_rfl)
noncomputable def spec_kiPrime.g : Gam := []
theorem spec_kiPrime.gok : GOkI Tryz.prog I spec_kiPrime.g := GOkI.nil _ _
noncomputable def spec_kiPrime.i : FI := ⟨Tryz.f103, body Tryz.f103, (.seq .nil (.seq (.seq .nil (.blk (.loop [0, 3] [] (.seq (.seq .nil (.cond .nil .nil)) (.seq (.blk (.seq .nil (.cond (.seq .nil .nil) .nil))) .nil))))) (.seq .nil .nil))), [], [], [.res (.tmp 2) (.v .bool)]⟩
noncomputable def spec_kiPrime.sp : CSpec := mkSpec spec_kiPrime.g T spec_kiPrime.i
theorem spec_kiPrime.ok : SpecOk Tryz.prog I 103 spec_kiPrime.sp := mkSpec_ok hmix hI spec_kiPrime.gok tok spec_kiPrime.i Tryz.func103 (by kernel_rfl) (by kernel_rfl) (by kernel_rfl) (by kernel_rfl)
noncomputable def spec_kiPrime.f (x0 : Int) : Option (Bool) := run spec_kiPrime.g T spec_kiPrime.i [.v (.int .i64) x0]
noncomputable def spec_kiPrime.l0 (x0 : Int) (x3 : Int) : Option (Bool) := runAt spec_kiPrime.g T spec_kiPrime.i [true, false, true, false] [(0, .val (.int .i64) x0), (3, .val (.int .i64) x3)] []
theorem spec_kiPrime.f.eq (x0 : Int) : spec_kiPrime.f x0 =
  spec_kiPrime.l0 x0 2 := by kernel_rfl
theorem spec_kiPrime.l0.eq (x0 : Int) (x3 : Int) : spec_kiPrime.l0 x0 x3 =
  if (decide ((IntKind.i64.wrap (x3 * x3)) ≤ x0)) = true then
    if x3 = 0 then
      none
    else
      if ((x0.tmod x3) == 0) = true then
        some false
      else
        spec_kiPrime.l0 x0 (IntKind.i64.wrap (x3 + 1))
  else
    some (decide (x0 > 1)) := (runAt_loop _ _ _ _ _ _).trans (by kernel_rfl)
noncomputable def spec_kiIs.g : Gam := [(103, spec_kiPrime.sp)]
theorem spec_kiIs.gok : GOkI Tryz.prog I spec_kiIs.g := (GOkI.nil _ _).cons spec_kiPrime.ok
noncomputable def spec_kiIs.i : FI := ⟨Tryz.f98, body Tryz.f98, (.seq .nil (.seq (.seq .nil (.blk (.seq .nil (.cond (.seq .nil .nil) (.seq .nil (.cond (.seq .nil (.seq (.seq .nil (.blk (.loop [0, 5, 6] [] (.seq (.seq .nil (.cond .nil .nil)) (.seq (.blk (.seq .nil (.cond (.seq .nil .nil) .nil))) .nil))))) (.seq .nil .nil))) (.seq .nil (.cond (.seq .nil .nil) .nil)))))))) (.seq .nil (.seq (.seq .nil (.blk (.loop [0, 1, 7, 8] [] (.seq (.seq .nil (.cond .nil .nil)) (.seq (.blk (.seq (.seq .nil (.blk (.seq .nil (.cond .nil (.seq .nil (.cond .nil .nil)))))) (.seq .nil (.cond (.seq .nil .nil) .nil)))) .nil))))) (.seq .nil .nil))))), [], [], [.res (.tmp 4) (.v .bool)]⟩
noncomputable def spec_kiIs.sp : CSpec := mkSpec spec_kiIs.g T spec_kiIs.i
theorem spec_kiIs.ok : SpecOk Tryz.prog I 98 spec_kiIs.sp := mkSpec_ok hmix hI spec_kiIs.gok tok spec_kiIs.i Tryz.func98 (by kernel_rfl) (by kernel_rfl) (by kernel_rfl) (by kernel_rfl)
noncomputable def spec_kiIs.f (x0 : Int) (x1 : List UInt8) : Option (Bool) := run spec_kiIs.g T spec_kiIs.i [.v (.int .i64) x0, .v .str x1]
noncomputable def spec_kiIs.l0 (x0 : Int) (x5 : Int) (x6 : Int) : Option (Bool) := runAt spec_kiIs.g T spec_kiIs.i [true, false, true, false, true, true, true, false, true, false, true, false] [(0, .val (.int .i64) x0), (5, .val (.int .i64) x5), (6, .val (.int .i64) x6)] []
noncomputable def spec_kiIs.l1 (x0 : Int) (x1 : List UInt8) (x7 : Int) (x8 : Int) : Option (Bool) := runAt spec_kiIs.g T spec_kiIs.i [true, true, true, false, true, false] [(0, .val (.int .i64) x0), (1, .val .str x1), (7, .val (.int .i64) x7), (8, .val (.int .i64) x8)] []
theorem spec_kiIs.f.eq (x0 : Int) (x1 : List UInt8) : spec_kiIs.f x0 x1 =
  if (x1 == [112]) = true then
    (spec_kiPrime.f x0).bind fun y2 =>
    some y2
  else
    if (x1 == [100]) = true then
      spec_kiIs.l0 x0 (x0.tmod 10) x0
    else
      if (x1 == [114]) = true then
        if (decide (x0 ≥ 10)) = true then
          some (if true = true then (x0.tmod 10) == 0 else false)
        else
          some false
      else
        spec_kiIs.l1 x0 x1 0 0 := by kernel_rfl
theorem spec_kiIs.l0.eq (x0 : Int) (x5 : Int) (x6 : Int) : spec_kiIs.l0 x0 x5 x6 =
  if (decide (x6 > 0)) = true then
    if ((x6.tmod 10) != x5) = true then
      some false
    else
      spec_kiIs.l0 x0 x5 (IntKind.i64.wrap (x6.tdiv 10))
  else
    some (decide (x0 > 10)) := (runAt_loop _ _ _ _ _ _).trans (by kernel_rfl)
theorem spec_kiIs.l1.eq (x0 : Int) (x1 : List UInt8) (x7 : Int) (x8 : Int) : spec_kiIs.l1 x0 x1 x7 x8 =
  if (decide (x7 ≤ x0)) = true then
    if (x1 == [115]) = true then
      let y3 := IntKind.i64.wrap (x8 * x8)
      if (y3 == x0) = true then
        some true
      else
        spec_kiIs.l1 x0 x1 y3 (IntKind.i64.wrap (x8 + 1))
    else
      if (x1 == [99]) = true then
        let y7 := IntKind.i64.wrap ((IntKind.i64.wrap (x8 * x8)) * x8)
        if (y7 == x0) = true then
          some true
        else
          spec_kiIs.l1 x0 x1 y7 (IntKind.i64.wrap (x8 + 1))
      else
        let y9 := IntKind.i64.wrap (x7 + x8)
        if (y9 == x0) = true then
          some true
        else
          spec_kiIs.l1 x0 x1 y9 (IntKind.i64.wrap (x8 + 1))
  else
    some false := (runAt_loop _ _ _ _ _ _).trans (by kernel_rfl)
end Go.Proofs.YtbmbejbhlcadmaaGreat.S
