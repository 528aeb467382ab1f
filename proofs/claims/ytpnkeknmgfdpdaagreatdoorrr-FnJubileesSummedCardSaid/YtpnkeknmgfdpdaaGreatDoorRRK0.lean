/- What the functions of this seat come to, over plain values. No condition. -/
import Derived.Test.YtpnkeknmgfdpdaaGreatDoorRRE3
import Derived.Test.YtpnkeknmgfdpdaaGreatDoorRRH
import Derived.Test.YtpnkeknmgfdpdaaGreatDoorRRProg
namespace Go.Proofs.YtpnkeknmgfdpdaaGreatDoorRR.S
open Go Go.Proofs.YtpnkeknmgfdpdaaGreatDoorRR.Eng Go.Proofs
set_option maxRecDepth 1000000
set_option linter.unusedVariables false
def T : Tys := [(3, ⟨(.int .i64), 0, 0, []⟩), (4, ⟨.bool, 0, 0, []⟩), (5, ⟨(.int .u8), 0, 0, []⟩), (9, ⟨.str, 0, 0, []⟩), (22, ⟨(.slice (.int .u8)), 5, 1, []⟩), (24, ⟨(.slice (.int .i64)), 3, 8, []⟩), (60, ⟨(.slice (.slice (.int .i64))), 24, 24, []⟩), (83, ⟨(.int .u64), 0, 0, []⟩), (85, ⟨(.pair (.slice (.int .u8)) (.pair (.int .i64) (.int .u64))), 0, 0, [(22, 0), (3, 1), (83, 2)]⟩), (102, ⟨(.slice .str), 9, 16, []⟩)]
theorem tok3 : TFits Tryz.prog T 3 ⟨(.int .i64), 0, 0, []⟩ := TFits.int' (by kernel_rfl) (by kernel_rfl) (by kernel_rfl)
theorem tok4 : TFits Tryz.prog T 4 ⟨.bool, 0, 0, []⟩ := TFits.bool' (by kernel_rfl) (by kernel_rfl) (by kernel_rfl)
theorem tok5 : TFits Tryz.prog T 5 ⟨(.int .u8), 0, 0, []⟩ := TFits.int' (by kernel_rfl) (by kernel_rfl) (by kernel_rfl)
theorem tok9 : TFits Tryz.prog T 9 ⟨.str, 0, 0, []⟩ := TFits.str' (by kernel_rfl) (by kernel_rfl) (by kernel_rfl)
theorem tok22 : TFits Tryz.prog T 22 ⟨(.slice (.int .u8)), 5, 1, []⟩ := TFits.slice' (by kernel_rfl) (by kernel_rfl) (by kernel_rfl) (by kernel_rfl) (by kernel_rfl) (by kernel_rfl)
theorem tok24 : TFits Tryz.prog T 24 ⟨(.slice (.int .i64)), 3, 8, []⟩ := TFits.slice' (by kernel_rfl) (by kernel_rfl) (by kernel_rfl) (by kernel_rfl) (by kernel_rfl) (by kernel_rfl)
theorem tok60 : TFits Tryz.prog T 60 ⟨(.slice (.slice (.int .i64))), 24, 24, []⟩ := TFits.slice' (by kernel_rfl) (by kernel_rfl) (by kernel_rfl) (by kernel_rfl) (by kernel_rfl) (by kernel_rfl)
theorem tok83 : TFits Tryz.prog T 83 ⟨(.int .u64), 0, 0, []⟩ := TFits.int' (by kernel_rfl) (by kernel_rfl) (by kernel_rfl)
theorem tok85 : TFits Tryz.prog T 85 ⟨(.pair (.slice (.int .u8)) (.pair (.int .i64) (.int .u64))), 0, 0, [(22, 0), (3, 1), (83, 2)]⟩ := TFits.pair' (by kernel_rfl) (by kernel_rfl) (by kernel_rfl) (by kernel_rfl)
theorem tok102 : TFits Tryz.prog T 102 ⟨(.slice .str), 9, 16, []⟩ := TFits.slice' (by kernel_rfl) (by kernel_rfl) (by kernel_rfl) (by kernel_rfl) (by kernel_rfl) (by kernel_rfl)
theorem tok : TOk Tryz.prog T := TOkL.ok (((((((((((TOkL.nil _ _).cons tok102).cons tok85).cons tok83).cons tok60).cons tok24).cons tok22).cons tok9).cons tok5).cons tok4).cons tok3)
theorem hmix : Tryz.prog.follows .mixedOrders = true := by kernel_rfl
def body (f : Func) : Code := f.body.getD .skip
noncomputable def laws_big.g : Gam := []
theorem laws_big.gok : GOkI Tryz.prog I laws_big.g := GOkI.nil _ _
noncomputable def laws_big.i : FI := ⟨Tryz.f5, body Tryz.f5, (.seq .nil (.seq .nil .nil)), [], [], [.res (.tmp 4) (.v .bool)]⟩
noncomputable def laws_big.sp : CSpec := mkSpec laws_big.g T laws_big.i
theorem laws_big.ok : SpecOk Tryz.prog I 5 laws_big.sp := mkSpec_ok hmix hI laws_big.gok tok laws_big.i Tryz.func5 (by kernel_rfl) (by kernel_rfl) (by kernel_rfl) (by kernel_rfl)
noncomputable def laws_big.f (x0 : List Int) (x1 : List Int) : Option (Bool) := run laws_big.g T laws_big.i [.v (.slice (.int .u8)) x0, .v (.slice (.int .u8)) x1]
theorem laws_big.f.eq (x0 : List Int) (x1 : List Int) : laws_big.f x0 x1 =
  if (decide ((x0.length : Int) > 1048576)) = true then
    some true
  else
    some (if false = true then true else (decide ((x1.length : Int) > (IntKind.i64.wrap (1048576 - (x0.length : Int)))))) := by kernel_rfl
noncomputable def spec_l1Cur_next.g : Gam := []
theorem spec_l1Cur_next.gok : GOkI Tryz.prog I spec_l1Cur_next.g := GOkI.nil _ _
noncomputable def spec_l1Cur_next.i : FI := ⟨Tryz.f145, body Tryz.f145, (.seq .nil (.seq .nil (.seq (.seq .nil (.cond .nil .nil)) (.seq .nil (.seq .nil (.seq (.seq .nil (.cond (.seq .nil .nil) .nil)) (.seq .nil .nil))))))), [], [1000000], [.res (.tmp 2) (.v (.int .i64)), .box 1000000 0 (.slice (.int .u8)), .box 1000000 1 (.int .i64), .box 1000000 2 (.int .u64)]⟩
noncomputable def spec_l1Cur_next.sp : CSpec := mkSpec spec_l1Cur_next.g T spec_l1Cur_next.i
theorem spec_l1Cur_next.ok : SpecOk Tryz.prog I 145 spec_l1Cur_next.sp := mkSpec_ok hmix hI spec_l1Cur_next.gok tok spec_l1Cur_next.i Tryz.func145 (by kernel_rfl) (by kernel_rfl) (by kernel_rfl) (by kernel_rfl)
noncomputable def spec_l1Cur_next.f (x0_0 : List Int) (x0_1 : Int) (x0_2 : Int) : Option (Int × (List Int) × Int × Int) := run spec_l1Cur_next.g T spec_l1Cur_next.i [.bx [⟨(.slice (.int .u8)), x0_0⟩, ⟨(.int .i64), x0_1⟩, ⟨(.int .u64), x0_2⟩]]
theorem spec_l1Cur_next.f.eq (x0_0 : List Int) (x0_1 : Int) (x0_2 : Int) : spec_l1Cur_next.f x0_0 x0_1 x0_2 =
  if (decide (x0_1 < (x0_0.length : Int))) = true then
    (rdI x0_0 x0_1).bind fun y3 =>
    let y5 := IntKind.i64.wrap (x0_1 + 1)
    let y9 := IntKind.u64.wrap ((IntKind.u64.wrap ((IntKind.u64.wrap (x0_2 * 6364136223846793005)) + (IntKind.u64.wrap (IntKind.i64.wrap y3)))) + 1442695040888963407)
    if (decide (y5 ≤ (x0_0.length : Int))) = true then
      some ((IntKind.i64.wrap y3), x0_0, y5, y9)
    else
      some ((IntKind.i64.wrap (bitI .and .u64 (shrI .u64 y9 40) 255)), x0_0, y5, y9)
  else
    let y15 := IntKind.i64.wrap (x0_1 + 1)
    let y19 := IntKind.u64.wrap ((IntKind.u64.wrap ((IntKind.u64.wrap (x0_2 * 6364136223846793005)) + (IntKind.u64.wrap 0))) + 1442695040888963407)
    if (decide (y15 ≤ (x0_0.length : Int))) = true then
      some (0, x0_0, y15, y19)
    else
      some ((IntKind.i64.wrap (bitI .and .u64 (shrI .u64 y19 40) 255)), x0_0, y15, y19) := by kernel_rfl
noncomputable def spec_l1Cur_pick.g : Gam := [(145, spec_l1Cur_next.sp)]
theorem spec_l1Cur_pick.gok : GOkI Tryz.prog I spec_l1Cur_pick.g := (GOkI.nil _ _).cons spec_l1Cur_next.ok
noncomputable def spec_l1Cur_pick.i : FI := ⟨Tryz.f89, body Tryz.f89, (.seq .nil (.seq (.seq .nil (.cond (.seq .nil .nil) .nil)) (.seq .nil (.seq (.seq .nil (.cond .nil .nil)) (.seq .nil .nil))))), [], [1000000], [.res (.tmp 4) (.v (.int .i64)), .box 1000000 0 (.slice (.int .u8)), .box 1000000 1 (.int .i64), .box 1000000 2 (.int .u64)]⟩
noncomputable def spec_l1Cur_pick.sp : CSpec := mkSpec spec_l1Cur_pick.g T spec_l1Cur_pick.i
theorem spec_l1Cur_pick.ok : SpecOk Tryz.prog I 89 spec_l1Cur_pick.sp := mkSpec_ok hmix hI spec_l1Cur_pick.gok tok spec_l1Cur_pick.i Tryz.func89 (by kernel_rfl) (by kernel_rfl) (by kernel_rfl) (by kernel_rfl)
noncomputable def spec_l1Cur_pick.f (x0_0 : List Int) (x0_1 : Int) (x0_2 : Int) (x1 : Int) : Option (Int × (List Int) × Int × Int) := run spec_l1Cur_pick.g T spec_l1Cur_pick.i [.bx [⟨(.slice (.int .u8)), x0_0⟩, ⟨(.int .i64), x0_1⟩, ⟨(.int .u64), x0_2⟩], .v (.int .i64) x1]
theorem spec_l1Cur_pick.f.eq (x0_0 : List Int) (x0_1 : Int) (x0_2 : Int) (x1 : Int) : spec_l1Cur_pick.f x0_0 x0_1 x0_2 x1 =
  if (decide (x1 ≤ 1)) = true then
    some (0, x0_0, x0_1, x0_2)
  else
    (spec_l1Cur_next.f x0_0 x0_1 x0_2).bind fun y2 =>
    if (decide (x1 > 200)) = true then
      (spec_l1Cur_next.f y2.2.1 y2.2.2.1 y2.2.2.2).bind fun y5 =>
      if x1 = 0 then
        none
      else
        some (((IntKind.i64.wrap ((IntKind.i64.wrap (y2.1 * 256)) + y5.1)).tmod x1), y5.2.1, y5.2.2.1, y5.2.2.2)
    else
      if x1 = 0 then
        none
      else
        some ((y2.1.tmod x1), y2.2.1, y2.2.2.1, y2.2.2.2) := by kernel_rfl
noncomputable def spec_l1Cur_one.g : Gam := [(89, spec_l1Cur_pick.sp)]
theorem spec_l1Cur_one.gok : GOkI Tryz.prog I spec_l1Cur_one.g := (GOkI.nil _ _).cons spec_l1Cur_pick.ok
noncomputable def spec_l1Cur_one.i : FI := ⟨Tryz.f87, body Tryz.f87, (.seq .nil (.seq .nil .nil)), [], [1000000], [.res (.tmp 4) (.v .bool), .box 1000000 0 (.slice (.int .u8)), .box 1000000 1 (.int .i64), .box 1000000 2 (.int .u64)]⟩
noncomputable def spec_l1Cur_one.sp : CSpec := mkSpec spec_l1Cur_one.g T spec_l1Cur_one.i
theorem spec_l1Cur_one.ok : SpecOk Tryz.prog I 87 spec_l1Cur_one.sp := mkSpec_ok hmix hI spec_l1Cur_one.gok tok spec_l1Cur_one.i Tryz.func87 (by kernel_rfl) (by kernel_rfl) (by kernel_rfl) (by kernel_rfl)
noncomputable def spec_l1Cur_one.f (x0_0 : List Int) (x0_1 : Int) (x0_2 : Int) (x1 : Int) : Option (Bool × (List Int) × Int × Int) := run spec_l1Cur_one.g T spec_l1Cur_one.i [.bx [⟨(.slice (.int .u8)), x0_0⟩, ⟨(.int .i64), x0_1⟩, ⟨(.int .u64), x0_2⟩], .v (.int .i64) x1]
theorem spec_l1Cur_one.f.eq (x0_0 : List Int) (x0_1 : Int) (x0_2 : Int) (x1 : Int) : spec_l1Cur_one.f x0_0 x0_1 x0_2 x1 =
  (spec_l1Cur_pick.f x0_0 x0_1 x0_2 x1).bind fun y1 =>
  some ((y1.1 == 0), y1.2.1, y1.2.2.1, y1.2.2.2) := by kernel_rfl
noncomputable def spec_l1Cur_among.g : Gam := [(89, spec_l1Cur_pick.sp)]
theorem spec_l1Cur_among.gok : GOkI Tryz.prog I spec_l1Cur_among.g := (GOkI.nil _ _).cons spec_l1Cur_pick.ok
noncomputable def spec_l1Cur_among.i : FI := ⟨Tryz.f88, body Tryz.f88, (.seq .nil (.seq .nil .nil)), [], [1000000], [.res (.tmp 4) (.v (.int .i64)), .box 1000000 0 (.slice (.int .u8)), .box 1000000 1 (.int .i64), .box 1000000 2 (.int .u64)]⟩
noncomputable def spec_l1Cur_among.sp : CSpec := mkSpec spec_l1Cur_among.g T spec_l1Cur_among.i
theorem spec_l1Cur_among.ok : SpecOk Tryz.prog I 88 spec_l1Cur_among.sp := mkSpec_ok hmix hI spec_l1Cur_among.gok tok spec_l1Cur_among.i Tryz.func88 (by kernel_rfl) (by kernel_rfl) (by kernel_rfl) (by kernel_rfl)
noncomputable def spec_l1Cur_among.f (x0_0 : List Int) (x0_1 : Int) (x0_2 : Int) (x1 : List Int) : Option (Int × (List Int) × Int × Int) := run spec_l1Cur_among.g T spec_l1Cur_among.i [.bx [⟨(.slice (.int .u8)), x0_0⟩, ⟨(.int .i64), x0_1⟩, ⟨(.int .u64), x0_2⟩], .v (.slice (.int .i64)) x1]
theorem spec_l1Cur_among.f.eq (x0_0 : List Int) (x0_1 : Int) (x0_2 : Int) (x1 : List Int) : spec_l1Cur_among.f x0_0 x0_1 x0_2 x1 =
  (spec_l1Cur_pick.f x0_0 x0_1 x0_2 (x1.length : Int)).bind fun y2 =>
  (rdI x1 y2.1).bind fun y3 =>
  some (y3, y2.2.1, y2.2.2.1, y2.2.2.2) := by kernel_rfl
noncomputable def spec_l1Cur_year.g : Gam := [(87, spec_l1Cur_one.sp), (88, spec_l1Cur_among.sp), (89, spec_l1Cur_pick.sp)]
theorem spec_l1Cur_year.gok : GOkI Tryz.prog I spec_l1Cur_year.g := (((GOkI.nil _ _).cons spec_l1Cur_pick.ok).cons spec_l1Cur_among.ok).cons spec_l1Cur_one.ok
noncomputable def spec_l1Cur_year.i : FI := ⟨Tryz.f82, body Tryz.f82, (.seq .nil (.seq (.seq .nil (.cond (.seq .nil .nil) .nil)) (.seq .nil .nil))), [], [1000000], [.res (.tmp 2) (.v (.int .i64)), .box 1000000 0 (.slice (.int .u8)), .box 1000000 1 (.int .i64), .box 1000000 2 (.int .u64)]⟩
noncomputable def spec_l1Cur_year.sp : CSpec := mkSpec spec_l1Cur_year.g T spec_l1Cur_year.i
theorem spec_l1Cur_year.ok : SpecOk Tryz.prog I 82 spec_l1Cur_year.sp := mkSpec_ok hmix hI spec_l1Cur_year.gok tok spec_l1Cur_year.i Tryz.func82 (by kernel_rfl) (by kernel_rfl) (by kernel_rfl) (by kernel_rfl)
noncomputable def spec_l1Cur_year.f (x0_0 : List Int) (x0_1 : Int) (x0_2 : Int) : Option (Int × (List Int) × Int × Int) := run spec_l1Cur_year.g T spec_l1Cur_year.i [.bx [⟨(.slice (.int .u8)), x0_0⟩, ⟨(.int .i64), x0_1⟩, ⟨(.int .u64), x0_2⟩]]
theorem spec_l1Cur_year.f.eq (x0_0 : List Int) (x0_1 : Int) (x0_2 : Int) : spec_l1Cur_year.f x0_0 x0_1 x0_2 =
  (spec_l1Cur_one.f x0_0 x0_1 x0_2 10).bind fun y1 =>
  if y1.1 = true then
    (spec_l1Cur_among.f y1.2.1 y1.2.2.1 y1.2.2.2 [(-1), 0, 1, 2999, 3000, 3001, 4611686018427387904]).bind fun y2 =>
    some (y2.1, y2.2.1, y2.2.2.1, y2.2.2.2)
  else
    (spec_l1Cur_pick.f y1.2.1 y1.2.2.1 y1.2.2.2 110).bind fun y3 =>
    some ((IntKind.i64.wrap (1925 + y3.1)), y3.2.1, y3.2.2.1, y3.2.2.2) := by kernel_rfl
noncomputable def spec_l1Least.g : Gam := []
theorem spec_l1Least.gok : GOkI Tryz.prog I spec_l1Least.g := GOkI.nil _ _
noncomputable def spec_l1Least.i : FI := ⟨Tryz.f160, body Tryz.f160, (.seq .nil (.seq (.seq .nil (.cond (.seq .nil .nil) .nil)) (.seq .nil .nil))), [], [], [.res (.tmp 4) (.v (.int .i64))]⟩
noncomputable def spec_l1Least.sp : CSpec := mkSpec spec_l1Least.g T spec_l1Least.i
theorem spec_l1Least.ok : SpecOk Tryz.prog I 160 spec_l1Least.sp := mkSpec_ok hmix hI spec_l1Least.gok tok spec_l1Least.i Tryz.func160 (by kernel_rfl) (by kernel_rfl) (by kernel_rfl) (by kernel_rfl)
noncomputable def spec_l1Least.f (x0 : Int) (x1 : Int) : Option (Int) := run spec_l1Least.g T spec_l1Least.i [.v (.int .i64) x0, .v (.int .i64) x1]
theorem spec_l1Least.f.eq (x0 : Int) (x1 : Int) : spec_l1Least.f x0 x1 =
  if (decide (x0 < x1)) = true then
    some x0
  else
    some x1 := by kernel_rfl
noncomputable def spec_l1Cur_span.g : Gam := [(82, spec_l1Cur_year.sp), (87, spec_l1Cur_one.sp), (160, spec_l1Least.sp), (88, spec_l1Cur_among.sp), (89, spec_l1Cur_pick.sp)]
theorem spec_l1Cur_span.gok : GOkI Tryz.prog I spec_l1Cur_span.g := (((((GOkI.nil _ _).cons spec_l1Cur_pick.ok).cons spec_l1Cur_among.ok).cons spec_l1Least.ok).cons spec_l1Cur_one.ok).cons spec_l1Cur_year.ok
noncomputable def spec_l1Cur_span.i : FI := ⟨Tryz.f139, body Tryz.f139, (.seq .nil (.seq .nil (.seq (.seq .nil (.cond (.seq .nil .nil) .nil)) (.seq .nil .nil)))), [], [1000000], [.res (.tmp 2) (.v (.int .i64)), .res (.tmp 3) (.v (.int .i64)), .box 1000000 0 (.slice (.int .u8)), .box 1000000 1 (.int .i64), .box 1000000 2 (.int .u64)]⟩
noncomputable def spec_l1Cur_span.sp : CSpec := mkSpec spec_l1Cur_span.g T spec_l1Cur_span.i
theorem spec_l1Cur_span.ok : SpecOk Tryz.prog I 139 spec_l1Cur_span.sp := mkSpec_ok hmix hI spec_l1Cur_span.gok tok spec_l1Cur_span.i Tryz.func139 (by kernel_rfl) (by kernel_rfl) (by kernel_rfl) (by kernel_rfl)
noncomputable def spec_l1Cur_span.f (x0_0 : List Int) (x0_1 : Int) (x0_2 : Int) : Option (Int × Int × (List Int) × Int × Int) := run spec_l1Cur_span.g T spec_l1Cur_span.i [.bx [⟨(.slice (.int .u8)), x0_0⟩, ⟨(.int .i64), x0_1⟩, ⟨(.int .u64), x0_2⟩]]
theorem spec_l1Cur_span.f.eq (x0_0 : List Int) (x0_1 : Int) (x0_2 : Int) : spec_l1Cur_span.f x0_0 x0_1 x0_2 =
  (spec_l1Cur_year.f x0_0 x0_1 x0_2).bind fun y1 =>
  (spec_l1Cur_one.f y1.2.1 y1.2.2.1 y1.2.2.2 10).bind fun y2 =>
  if y2.1 = true then
    (spec_l1Least.f y1.1 5000).bind fun y3 =>
    (spec_l1Cur_among.f y2.2.1 y2.2.2.1 y2.2.2.2 [(-1), 0, 199, 200, 201]).bind fun y4 =>
    some (y1.1, (IntKind.i64.wrap (y3 + y4.1)), y4.2.1, y4.2.2.1, y4.2.2.2)
  else
    (spec_l1Least.f y1.1 5000).bind fun y6 =>
    (spec_l1Cur_pick.f y2.2.1 y2.2.2.1 y2.2.2.2 50).bind fun y7 =>
    some (y1.1, (IntKind.i64.wrap (y6 + y7.1)), y7.2.1, y7.2.2.1, y7.2.2.2) := by kernel_rfl
noncomputable def spec_l1Cur_sureBorn.g : Gam := [(89, spec_l1Cur_pick.sp)]
theorem spec_l1Cur_sureBorn.gok : GOkI Tryz.prog I spec_l1Cur_sureBorn.g := (GOkI.nil _ _).cons spec_l1Cur_pick.ok
noncomputable def spec_l1Cur_sureBorn.i : FI := ⟨Tryz.f101, body Tryz.f101, (.seq .nil (.seq .nil (.seq (.seq .nil (.blk (.loop [0, 5, 6] [1000000] (.seq (.seq .nil (.cond .nil .nil)) (.seq (.blk .nil) .nil))))) (.seq .nil .nil)))), [], [1000000], [.res (.tmp 4) (.own 3 (.int .i64)), .box 1000000 0 (.slice (.int .u8)), .box 1000000 1 (.int .i64), .box 1000000 2 (.int .u64)]⟩
noncomputable def spec_l1Cur_sureBorn.sp : CSpec := mkSpec spec_l1Cur_sureBorn.g T spec_l1Cur_sureBorn.i
theorem spec_l1Cur_sureBorn.ok : SpecOk Tryz.prog I 101 spec_l1Cur_sureBorn.sp := mkSpec_ok hmix hI spec_l1Cur_sureBorn.gok tok spec_l1Cur_sureBorn.i Tryz.func101 (by kernel_rfl) (by kernel_rfl) (by kernel_rfl) (by kernel_rfl)
noncomputable def spec_l1Cur_sureBorn.f (x0_0 : List Int) (x0_1 : Int) (x0_2 : Int) (x1 : Int) : Option ((List Int) × (List Int) × Int × Int) := run spec_l1Cur_sureBorn.g T spec_l1Cur_sureBorn.i [.bx [⟨(.slice (.int .u8)), x0_0⟩, ⟨(.int .i64), x0_1⟩, ⟨(.int .u64), x0_2⟩], .v (.int .i64) x1]
noncomputable def spec_l1Cur_sureBorn.l0 (x5 : List Int) (x6 : Int) (x0_0 : List Int) (x0_1 : Int) (x0_2 : Int) : Option ((List Int) × (List Int) × Int × Int) := runAt spec_l1Cur_sureBorn.g T spec_l1Cur_sureBorn.i [true, true, false, true, false] [(0, .ptr 1000000 0), (5, .own 3 (.int .i64) x5), (6, .val (.int .i64) x6)] [(1000000, [⟨(.slice (.int .u8)), x0_0⟩, ⟨(.int .i64), x0_1⟩, ⟨(.int .u64), x0_2⟩])]
theorem spec_l1Cur_sureBorn.f.eq (x0_0 : List Int) (x0_1 : Int) (x0_2 : Int) (x1 : Int) : spec_l1Cur_sureBorn.f x0_0 x0_1 x0_2 x1 =
  (spec_l1Cur_pick.f x0_0 x0_1 x0_2 x1).bind fun y1 =>
  spec_l1Cur_sureBorn.l0 [] (IntKind.i64.wrap (1 + y1.1)) y1.2.1 y1.2.2.1 y1.2.2.2 := by kernel_rfl
theorem spec_l1Cur_sureBorn.l0.eq (x5 : List Int) (x6 : Int) (x0_0 : List Int) (x0_1 : Int) (x0_2 : Int) : spec_l1Cur_sureBorn.l0 x5 x6 x0_0 x0_1 x0_2 =
  if (decide (x6 > 0)) = true then
    (spec_l1Cur_pick.f x0_0 x0_1 x0_2 12).bind fun y2 =>
    (spec_l1Cur_pick.f y2.2.1 y2.2.2.1 y2.2.2.2 3).bind fun y5 =>
    (catI (appMax 8) x5 [(IntKind.i64.wrap ((IntKind.i64.wrap (1930 + (IntKind.i64.wrap (5 * y2.1)))) + (IntKind.i64.wrap (y5.1.tdiv 2))))]).bind fun y8 =>
    spec_l1Cur_sureBorn.l0 y8 (IntKind.i64.wrap (x6 - 1)) y5.2.1 y5.2.2.1 y5.2.2.2
  else
    some (x5, x0_0, x0_1, x0_2) := (runAt_loop _ _ _ _ _ _).trans (by kernel_rfl)
noncomputable def spec_l1Cur_born.g : Gam := [(101, spec_l1Cur_sureBorn.sp), (89, spec_l1Cur_pick.sp), (88, spec_l1Cur_among.sp)]
theorem spec_l1Cur_born.gok : GOkI Tryz.prog I spec_l1Cur_born.g := (((GOkI.nil _ _).cons spec_l1Cur_among.ok).cons spec_l1Cur_pick.ok).cons spec_l1Cur_sureBorn.ok
noncomputable def spec_l1Cur_born.i : FI := ⟨Tryz.f81, body Tryz.f81, (.seq .nil (.seq .nil (.seq (.seq .nil (.blk (.seq .nil (.cond (.seq .nil .nil) (.seq .nil (.cond .nil (.seq .nil (.cond (.blk (.loop [0, 3] [1000000] (.seq (.seq .nil (.cond .nil .nil)) (.blk .nil)))) .nil)))))))) (.seq .nil .nil)))), [], [1000000], [.res (.tmp 2) (.own 3 (.int .i64)), .box 1000000 0 (.slice (.int .u8)), .box 1000000 1 (.int .i64), .box 1000000 2 (.int .u64)]⟩
noncomputable def spec_l1Cur_born.sp : CSpec := mkSpec spec_l1Cur_born.g T spec_l1Cur_born.i
theorem spec_l1Cur_born.ok : SpecOk Tryz.prog I 81 spec_l1Cur_born.sp := mkSpec_ok hmix hI spec_l1Cur_born.gok tok spec_l1Cur_born.i Tryz.func81 (by kernel_rfl) (by kernel_rfl) (by kernel_rfl) (by kernel_rfl)
noncomputable def spec_l1Cur_born.f (x0_0 : List Int) (x0_1 : Int) (x0_2 : Int) : Option ((List Int) × (List Int) × Int × Int) := run spec_l1Cur_born.g T spec_l1Cur_born.i [.bx [⟨(.slice (.int .u8)), x0_0⟩, ⟨(.int .i64), x0_1⟩, ⟨(.int .u64), x0_2⟩]]
noncomputable def spec_l1Cur_born.l0 (x3 : List Int) (x0_0 : List Int) (x0_1 : Int) (x0_2 : Int) : Option ((List Int) × (List Int) × Int × Int) := runAt spec_l1Cur_born.g T spec_l1Cur_born.i [true, true, false, true, false, true, true, true, true, true, false, false] [(0, .ptr 1000000 0), (3, .own 3 (.int .i64) x3)] [(1000000, [⟨(.slice (.int .u8)), x0_0⟩, ⟨(.int .i64), x0_1⟩, ⟨(.int .u64), x0_2⟩])]
theorem spec_l1Cur_born.f.eq (x0_0 : List Int) (x0_1 : Int) (x0_2 : Int) : spec_l1Cur_born.f x0_0 x0_1 x0_2 =
  (spec_l1Cur_sureBorn.f x0_0 x0_1 x0_2 5).bind fun y1 =>
  (spec_l1Cur_pick.f y1.2.1 y1.2.2.1 y1.2.2.2 20).bind fun y2 =>
  if (y2.1 == 0) = true then
    some ([], y2.2.1, y2.2.2.1, y2.2.2.2)
  else
    if (y2.1 == 1) = true then
      (spec_l1Cur_among.f y2.2.1 y2.2.2.1 y2.2.2.2 [(-1), 0, 2900, 2901, 4611686018427387904]).bind fun y5 =>
      (catI (appMax 8) y1.1 [y5.1]).bind fun y6 =>
      some (y6, y5.2.1, y5.2.2.1, y5.2.2.2)
    else
      if (y2.1 == 2) = true then
        spec_l1Cur_born.l0 y1.1 y2.2.1 y2.2.2.1 y2.2.2.2
      else
        some (y1.1, y2.2.1, y2.2.2.1, y2.2.2.2) := by kernel_rfl
theorem spec_l1Cur_born.l0.eq (x3 : List Int) (x0_0 : List Int) (x0_1 : Int) (x0_2 : Int) : spec_l1Cur_born.l0 x3 x0_0 x0_1 x0_2 =
  (spec_l1Cur_pick.f x0_0 x0_1 x0_2 2).bind fun y2 =>
  if (decide ((x3.length : Int) < (IntKind.i64.wrap (10 + y2.1)))) = true then
    (catI (appMax 8) x3 [1970]).bind fun y5 =>
    spec_l1Cur_born.l0 y5 y2.2.1 y2.2.2.1 y2.2.2.2
  else
    some (x3, y2.2.1, y2.2.2.1, y2.2.2.2) := (runAt_loop _ _ _ _ _ _).trans (by kernel_rfl)
noncomputable def spec_l1Cur_jubilee.g : Gam := [(88, spec_l1Cur_among.sp)]
theorem spec_l1Cur_jubilee.gok : GOkI Tryz.prog I spec_l1Cur_jubilee.g := (GOkI.nil _ _).cons spec_l1Cur_among.ok
noncomputable def spec_l1Cur_jubilee.i : FI := ⟨Tryz.f140, body Tryz.f140, (.seq .nil (.seq .nil .nil)), [], [1000000], [.res (.tmp 2) (.v (.int .i64)), .box 1000000 0 (.slice (.int .u8)), .box 1000000 1 (.int .i64), .box 1000000 2 (.int .u64)]⟩
noncomputable def spec_l1Cur_jubilee.sp : CSpec := mkSpec spec_l1Cur_jubilee.g T spec_l1Cur_jubilee.i
theorem spec_l1Cur_jubilee.ok : SpecOk Tryz.prog I 140 spec_l1Cur_jubilee.sp := mkSpec_ok hmix hI spec_l1Cur_jubilee.gok tok spec_l1Cur_jubilee.i Tryz.func140 (by kernel_rfl) (by kernel_rfl) (by kernel_rfl) (by kernel_rfl)
noncomputable def spec_l1Cur_jubilee.f (x0_0 : List Int) (x0_1 : Int) (x0_2 : Int) : Option (Int × (List Int) × Int × Int) := run spec_l1Cur_jubilee.g T spec_l1Cur_jubilee.i [.bx [⟨(.slice (.int .u8)), x0_0⟩, ⟨(.int .i64), x0_1⟩, ⟨(.int .u64), x0_2⟩]]
theorem spec_l1Cur_jubilee.f.eq (x0_0 : List Int) (x0_1 : Int) (x0_2 : Int) : spec_l1Cur_jubilee.f x0_0 x0_1 x0_2 =
  (spec_l1Cur_among.f x0_0 x0_1 x0_2 [1, 5, 5, 10, 10, 20, 25, 50, 100, 101, 0]).bind fun y1 =>
  some (y1.1, y1.2.1, y1.2.2.1, y1.2.2.2) := by kernel_rfl
noncomputable def spec_DrawCountJubilees.g : Gam := [(139, spec_l1Cur_span.sp), (81, spec_l1Cur_born.sp), (140, spec_l1Cur_jubilee.sp)]
theorem spec_DrawCountJubilees.gok : GOkI Tryz.prog I spec_DrawCountJubilees.g := (((GOkI.nil _ _).cons spec_l1Cur_jubilee.ok).cons spec_l1Cur_born.ok).cons spec_l1Cur_span.ok
noncomputable def spec_DrawCountJubilees.i : FI := ⟨Tryz.f72, body Tryz.f72, (.seq .nil (.seq .nil (.seq .nil (.seq .nil .nil)))), [], [], [.res (.tmp 2) (.own 3 (.int .i64)), .res (.tmp 3) (.v (.int .i64)), .res (.tmp 4) (.v (.int .i64)), .res (.tmp 5) (.v (.int .i64))]⟩
noncomputable def spec_DrawCountJubilees.sp : CSpec := mkSpec spec_DrawCountJubilees.g T spec_DrawCountJubilees.i
theorem spec_DrawCountJubilees.ok : SpecOk Tryz.prog I 72 spec_DrawCountJubilees.sp := mkSpec_ok hmix hI spec_DrawCountJubilees.gok tok spec_DrawCountJubilees.i Tryz.func72 (by kernel_rfl) (by kernel_rfl) (by kernel_rfl) (by kernel_rfl)
noncomputable def spec_DrawCountJubilees.f (x0 : List Int) : Option ((List Int) × Int × Int × Int) := run spec_DrawCountJubilees.g T spec_DrawCountJubilees.i [.v (.slice (.int .u8)) x0]
theorem spec_DrawCountJubilees.f.eq (x0 : List Int) : spec_DrawCountJubilees.f x0 =
  (spec_l1Cur_span.f x0 0 0).bind fun y1 =>
  (spec_l1Cur_born.f y1.2.2.1 y1.2.2.2.1 y1.2.2.2.2).bind fun y2 =>
  (spec_l1Cur_jubilee.f y2.2.1 y2.2.2.1 y2.2.2.2).bind fun y3 =>
  some (y2.1, y1.1, y1.2.1, y3.1) := by kernel_rfl
noncomputable def spec_DrawRoundSums.g : Gam := [(72, spec_DrawCountJubilees.sp)]
theorem spec_DrawRoundSums.gok : GOkI Tryz.prog I spec_DrawRoundSums.g := (GOkI.nil _ _).cons spec_DrawCountJubilees.ok
noncomputable def spec_DrawRoundSums.i : FI := ⟨Tryz.f6, body Tryz.f6, (.seq .nil (.seq .nil .nil)), [], [], [.res (.tmp 2) (.own 3 (.int .i64)), .res (.tmp 3) (.v (.int .i64)), .res (.tmp 4) (.v (.int .i64)), .res (.tmp 5) (.v (.int .i64))]⟩
noncomputable def spec_DrawRoundSums.sp : CSpec := mkSpec spec_DrawRoundSums.g T spec_DrawRoundSums.i
theorem spec_DrawRoundSums.ok : SpecOk Tryz.prog I 6 spec_DrawRoundSums.sp := mkSpec_ok hmix hI spec_DrawRoundSums.gok tok spec_DrawRoundSums.i Tryz.func6 (by kernel_rfl) (by kernel_rfl) (by kernel_rfl) (by kernel_rfl)
noncomputable def spec_DrawRoundSums.f (x0 : List Int) : Option ((List Int) × Int × Int × Int) := run spec_DrawRoundSums.g T spec_DrawRoundSums.i [.v (.slice (.int .u8)) x0]
theorem spec_DrawRoundSums.f.eq (x0 : List Int) : spec_DrawRoundSums.f x0 =
  (spec_DrawCountJubilees.f x0).bind fun y1 =>
  some (y1.1, y1.2.1, y1.2.2.1, y1.2.2.2) := by kernel_rfl
noncomputable def impl_between.g : Gam := []
theorem impl_between.gok : GOkI Tryz.prog I impl_between.g := GOkI.nil _ _
noncomputable def impl_between.i : FI := ⟨Tryz.f90, body Tryz.f90, (.seq .nil (.seq .nil .nil)), [], [], [.res (.tmp 6) (.v .bool)]⟩
noncomputable def impl_between.sp : CSpec := mkSpec impl_between.g T impl_between.i
theorem impl_between.ok : SpecOk Tryz.prog I 90 impl_between.sp := mkSpec_ok hmix hI impl_between.gok tok impl_between.i Tryz.func90 (by kernel_rfl) (by kernel_rfl) (by kernel_rfl) (by kernel_rfl)
noncomputable def impl_between.f (x0 : Int) (x1 : Int) (x2 : Int) : Option (Bool) := run impl_between.g T impl_between.i [.v (.int .i64) x0, .v (.int .i64) x1, .v (.int .i64) x2]
theorem impl_between.f.eq (x0 : Int) (x1 : Int) (x2 : Int) : impl_between.f x0 x1 x2 =
  if (decide (x0 ≥ x1)) = true then
    some (if true = true then (decide (x0 ≤ x2)) else false)
  else
    some false := by kernel_rfl
noncomputable def impl_areBetween_1.g : Gam := [(90, impl_between.sp)]
theorem impl_areBetween_1.gok : GOkI Tryz.prog I impl_areBetween_1.g := (GOkI.nil _ _).cons impl_between.ok
noncomputable def impl_areBetween_1.i : FI := ⟨Tryz.f152, body Tryz.f152, (.seq .nil (.seq .nil .nil)), [], [], [.res (.tmp 4) (.v .bool)]⟩
noncomputable def impl_areBetween_1.sp : CSpec := mkSpec impl_areBetween_1.g T impl_areBetween_1.i
theorem impl_areBetween_1.ok : SpecOk Tryz.prog I 152 impl_areBetween_1.sp := mkSpec_ok hmix hI impl_areBetween_1.gok tok impl_areBetween_1.i Tryz.func152 (by kernel_rfl) (by kernel_rfl) (by kernel_rfl) (by kernel_rfl)
noncomputable def impl_areBetween_1.f (x0 : Int) (x1 : Int) (x2 : Int) : Option (Bool) := run impl_areBetween_1.g T impl_areBetween_1.i [.v (.int .i64) x0, .cr (.int .i64) x1, .cr (.int .i64) x2]
theorem impl_areBetween_1.f.eq (x0 : Int) (x1 : Int) (x2 : Int) : impl_areBetween_1.f x0 x1 x2 =
  (impl_between.f x0 x1 x2).bind fun y1 =>
  some (!y1) := by kernel_rfl
noncomputable def slices_IndexFunc.g : Gam := [(152, impl_areBetween_1.sp)]
theorem slices_IndexFunc.gok : GOkI Tryz.prog I slices_IndexFunc.g := (GOkI.nil _ _).cons impl_areBetween_1.ok
noncomputable def slices_IndexFunc.i : FI := ⟨Tryz.f163, body Tryz.f163, (.seq .nil (.seq (.seq .nil (.blk (.loop [0, 1, 7, 8] [] (.seq .nil (.seq (.cond .nil .nil) (.seq (.blk (.seq .nil (.seq .nil (.cond (.seq .nil .nil) .nil)))) .nil)))))) (.seq .nil .nil))), [], [], [.res (.tmp 4) (.v (.int .i64))]⟩
noncomputable def slices_IndexFunc.sp : CSpec := mkSpec slices_IndexFunc.g T slices_IndexFunc.i
theorem slices_IndexFunc.ok : SpecOk Tryz.prog I 163 slices_IndexFunc.sp := mkSpec_ok hmix hI slices_IndexFunc.gok tok slices_IndexFunc.i Tryz.func163 (by kernel_rfl) (by kernel_rfl) (by kernel_rfl) (by kernel_rfl)
noncomputable def slices_IndexFunc.f (x0 : List Int) (x1_0 : Int) (x1_1 : Int) : Option (Int) := run slices_IndexFunc.g T slices_IndexFunc.i [.v (.slice (.int .i64)) x0, .clo (closure impl_areBetween_1.sp [.cr (.int .i64) x1_0, .cr (.int .i64) x1_1])]
noncomputable def slices_IndexFunc.l0 (x0 : List Int) (x1_0 : Int) (x1_1 : Int) (x7 : Int) (x8 : Int) : Option (Int) := runAt slices_IndexFunc.g T slices_IndexFunc.i [true, false, true, false] [(0, .val (.slice (.int .i64)) x0), (1, .clo (closure impl_areBetween_1.sp [.cr (.int .i64) x1_0, .cr (.int .i64) x1_1])), (7, .val (.int .i64) x7), (8, .val (.int .i64) x8)] []
theorem slices_IndexFunc.f.eq (x0 : List Int) (x1_0 : Int) (x1_1 : Int) : slices_IndexFunc.f x0 x1_0 x1_1 =
  slices_IndexFunc.l0 x0 x1_0 x1_1 (x0.length : Int) 0 := by kernel_rfl
theorem slices_IndexFunc.l0.eq (x0 : List Int) (x1_0 : Int) (x1_1 : Int) (x7 : Int) (x8 : Int) : slices_IndexFunc.l0 x0 x1_0 x1_1 x7 x8 =
  if (decide (x8 < x7)) = true then
    (rdI x0 x8).bind fun y2 =>
    ((impl_areBetween_1.f y2 x1_0 x1_1).bind some).bind fun y3 =>
    if y3 = true then
      some x8
    else
      slices_IndexFunc.l0 x0 x1_0 x1_1 x7 (IntKind.i64.wrap (x8 + 1))
  else
    some (-1) := (runAt_loop _ _ _ _ _ _).trans (by kernel_rfl)
noncomputable def slices_ContainsFunc.g : Gam := [(163, slices_IndexFunc.sp)]
theorem slices_ContainsFunc.gok : GOkI Tryz.prog I slices_ContainsFunc.g := (GOkI.nil _ _).cons slices_IndexFunc.ok
noncomputable def slices_ContainsFunc.i : FI := ⟨Tryz.f151, body Tryz.f151, (.seq .nil (.seq .nil .nil)), [], [], [.res (.tmp 4) (.v .bool)]⟩
noncomputable def slices_ContainsFunc.sp : CSpec := mkSpec slices_ContainsFunc.g T slices_ContainsFunc.i
theorem slices_ContainsFunc.ok : SpecOk Tryz.prog I 151 slices_ContainsFunc.sp := mkSpec_ok hmix hI slices_ContainsFunc.gok tok slices_ContainsFunc.i Tryz.func151 (by kernel_rfl) (by kernel_rfl) (by kernel_rfl) (by kernel_rfl)
noncomputable def slices_ContainsFunc.f (x0 : List Int) (x1_0 : Int) (x1_1 : Int) : Option (Bool) := run slices_ContainsFunc.g T slices_ContainsFunc.i [.v (.slice (.int .i64)) x0, .clo (closure impl_areBetween_1.sp [.cr (.int .i64) x1_0, .cr (.int .i64) x1_1])]
theorem slices_ContainsFunc.f.eq (x0 : List Int) (x1_0 : Int) (x1_1 : Int) : slices_ContainsFunc.f x0 x1_0 x1_1 =
  (slices_IndexFunc.f x0 x1_0 x1_1).bind fun y1 =>
  some (decide (y1 ≥ 0)) := by kernel_rfl
noncomputable def impl_areBetween.g : Gam := [(151, slices_ContainsFunc.sp), (152, impl_areBetween_1.sp)]
theorem impl_areBetween.gok : GOkI Tryz.prog I impl_areBetween.g := ((GOkI.nil _ _).cons impl_areBetween_1.ok).cons slices_ContainsFunc.ok
noncomputable def impl_areBetween.i : FI := ⟨Tryz.f106, body Tryz.f106, (.seq .nil (.seq .nil .nil)), [], [], [.res (.tmp 6) (.v .bool)]⟩
noncomputable def impl_areBetween.sp : CSpec := mkSpec impl_areBetween.g T impl_areBetween.i
theorem impl_areBetween.ok : SpecOk Tryz.prog I 106 impl_areBetween.sp := mkSpec_ok hmix hI impl_areBetween.gok tok impl_areBetween.i Tryz.func106 (by kernel_rfl) (by kernel_rfl) (by kernel_rfl) (by kernel_rfl)
noncomputable def impl_areBetween.f (x0 : List Int) (x1 : Int) (x2 : Int) : Option (Bool) := run impl_areBetween.g T impl_areBetween.i [.v (.slice (.int .i64)) x0, .v (.int .i64) x1, .v (.int .i64) x2]
theorem impl_areBetween.f.eq (x0 : List Int) (x1 : Int) (x2 : Int) : impl_areBetween.f x0 x1 x2 =
  (slices_ContainsFunc.f x0 x1 x2).bind fun y1 =>
  some (!y1) := by kernel_rfl
noncomputable def impl_AreBirths.g : Gam := [(90, impl_between.sp), (106, impl_areBetween.sp)]
theorem impl_AreBirths.gok : GOkI Tryz.prog I impl_AreBirths.g := ((GOkI.nil _ _).cons impl_areBetween.ok).cons impl_between.ok
noncomputable def impl_AreBirths.i : FI := ⟨Tryz.f34, body Tryz.f34, (.seq .nil (.seq .nil .nil)), [], [], [.res (.tmp 2) (.v .bool)]⟩
noncomputable def impl_AreBirths.sp : CSpec := mkSpec impl_AreBirths.g T impl_AreBirths.i
theorem impl_AreBirths.ok : SpecOk Tryz.prog I 34 impl_AreBirths.sp := mkSpec_ok hmix hI impl_AreBirths.gok tok impl_AreBirths.i Tryz.func34 (by kernel_rfl) (by kernel_rfl) (by kernel_rfl) (by kernel_rfl)
noncomputable def impl_AreBirths.f (x0 : List Int) : Option (Bool) := run impl_AreBirths.g T impl_AreBirths.i [.v (.slice (.int .i64)) x0]
theorem impl_AreBirths.f.eq (x0 : List Int) : impl_AreBirths.f x0 =
  (impl_between.f (x0.length : Int) 1 10).bind fun y2 =>
  if y2 = true then
    (impl_areBetween.f x0 0 2900).bind fun y3 =>
    some (if true = true then y3 else false)
  else
    some false := by kernel_rfl
noncomputable def impl_isYear.g : Gam := [(90, impl_between.sp)]
theorem impl_isYear.gok : GOkI Tryz.prog I impl_isYear.g := (GOkI.nil _ _).cons impl_between.ok
noncomputable def impl_isYear.i : FI := ⟨Tryz.f80, body Tryz.f80, (.seq .nil (.seq .nil .nil)), [], [], [.res (.tmp 2) (.v .bool)]⟩
noncomputable def impl_isYear.sp : CSpec := mkSpec impl_isYear.g T impl_isYear.i
theorem impl_isYear.ok : SpecOk Tryz.prog I 80 impl_isYear.sp := mkSpec_ok hmix hI impl_isYear.gok tok impl_isYear.i Tryz.func80 (by kernel_rfl) (by kernel_rfl) (by kernel_rfl) (by kernel_rfl)
noncomputable def impl_isYear.f (x0 : Int) : Option (Bool) := run impl_isYear.g T impl_isYear.i [.v (.int .i64) x0]
theorem impl_isYear.f.eq (x0 : Int) : impl_isYear.f x0 =
  (impl_between.f x0 0 3000).bind fun y1 =>
  some y1 := by kernel_rfl
noncomputable def impl_isSpan.g : Gam := [(80, impl_isYear.sp), (90, impl_between.sp)]
theorem impl_isSpan.gok : GOkI Tryz.prog I impl_isSpan.g := ((GOkI.nil _ _).cons impl_between.ok).cons impl_isYear.ok
noncomputable def impl_isSpan.i : FI := ⟨Tryz.f73, body Tryz.f73, (.seq .nil (.seq .nil .nil)), [], [], [.res (.tmp 4) (.v .bool)]⟩
noncomputable def impl_isSpan.sp : CSpec := mkSpec impl_isSpan.g T impl_isSpan.i
theorem impl_isSpan.ok : SpecOk Tryz.prog I 73 impl_isSpan.sp := mkSpec_ok hmix hI impl_isSpan.gok tok impl_isSpan.i Tryz.func73 (by kernel_rfl) (by kernel_rfl) (by kernel_rfl) (by kernel_rfl)
noncomputable def impl_isSpan.f (x0 : Int) (x1 : Int) : Option (Bool) := run impl_isSpan.g T impl_isSpan.i [.v (.int .i64) x0, .v (.int .i64) x1]
theorem impl_isSpan.f.eq (x0 : Int) (x1 : Int) : impl_isSpan.f x0 x1 =
  (impl_isYear.f x0).bind fun y1 =>
  if y1 = true then
    (impl_between.f x1 x0 3000).bind fun y2 =>
    if (if true = true then y2 else false) = true then
      some (if true = true then (decide ((IntKind.i64.wrap (x1 - x0)) < 200)) else false)
    else
      some false
  else
    some false := by kernel_rfl
noncomputable def impl_isEvery.g : Gam := [(90, impl_between.sp)]
theorem impl_isEvery.gok : GOkI Tryz.prog I impl_isEvery.g := (GOkI.nil _ _).cons impl_between.ok
noncomputable def impl_isEvery.i : FI := ⟨Tryz.f74, body Tryz.f74, (.seq .nil (.seq .nil .nil)), [], [], [.res (.tmp 2) (.v .bool)]⟩
noncomputable def impl_isEvery.sp : CSpec := mkSpec impl_isEvery.g T impl_isEvery.i
theorem impl_isEvery.ok : SpecOk Tryz.prog I 74 impl_isEvery.sp := mkSpec_ok hmix hI impl_isEvery.gok tok impl_isEvery.i Tryz.func74 (by kernel_rfl) (by kernel_rfl) (by kernel_rfl) (by kernel_rfl)
noncomputable def impl_isEvery.f (x0 : Int) : Option (Bool) := run impl_isEvery.g T impl_isEvery.i [.v (.int .i64) x0]
theorem impl_isEvery.f.eq (x0 : Int) : impl_isEvery.f x0 =
  (impl_between.f x0 1 100).bind fun y1 =>
  some y1 := by kernel_rfl
noncomputable def impl_isAge.g : Gam := [(90, impl_between.sp)]
theorem impl_isAge.gok : GOkI Tryz.prog I impl_isAge.g := (GOkI.nil _ _).cons impl_between.ok
noncomputable def impl_isAge.i : FI := ⟨Tryz.f144, body Tryz.f144, (.seq .nil (.seq .nil .nil)), [], [], [.res (.tmp 2) (.v .bool)]⟩
noncomputable def impl_isAge.sp : CSpec := mkSpec impl_isAge.g T impl_isAge.i
theorem impl_isAge.ok : SpecOk Tryz.prog I 144 impl_isAge.sp := mkSpec_ok hmix hI impl_isAge.gok tok impl_isAge.i Tryz.func144 (by kernel_rfl) (by kernel_rfl) (by kernel_rfl) (by kernel_rfl)
noncomputable def impl_isAge.f (x0 : Int) : Option (Bool) := run impl_isAge.g T impl_isAge.i [.v (.int .i64) x0]
theorem impl_isAge.f.eq (x0 : Int) : impl_isAge.f x0 =
  (impl_between.f x0 0 120).bind fun y1 =>
  some y1 := by kernel_rfl
noncomputable def impl_ageIn.g : Gam := [(144, impl_isAge.sp)]
theorem impl_ageIn.gok : GOkI Tryz.prog I impl_ageIn.g := (GOkI.nil _ _).cons impl_isAge.ok
noncomputable def impl_ageIn.i : FI := ⟨Tryz.f84, body Tryz.f84, (.seq .nil (.seq .nil .nil)), [], [], [.res (.tmp 4) (.v (.int .i64)), .res (.tmp 5) (.v .bool)]⟩
noncomputable def impl_ageIn.sp : CSpec := mkSpec impl_ageIn.g T impl_ageIn.i
theorem impl_ageIn.ok : SpecOk Tryz.prog I 84 impl_ageIn.sp := mkSpec_ok hmix hI impl_ageIn.gok tok impl_ageIn.i Tryz.func84 (by kernel_rfl) (by kernel_rfl) (by kernel_rfl) (by kernel_rfl)
noncomputable def impl_ageIn.f (x0 : Int) (x1 : Int) : Option (Int × Bool) := run impl_ageIn.g T impl_ageIn.i [.v (.int .i64) x0, .v (.int .i64) x1]
theorem impl_ageIn.f.eq (x0 : Int) (x1 : Int) : impl_ageIn.f x0 x1 =
  (impl_isAge.f (IntKind.i64.wrap (x1 - x0))).bind fun y3 =>
  some ((IntKind.i64.wrap (x1 - x0)), y3) := by kernel_rfl
noncomputable def impl_sumOfAges.g : Gam := [(84, impl_ageIn.sp)]
theorem impl_sumOfAges.gok : GOkI Tryz.prog I impl_sumOfAges.g := (GOkI.nil _ _).cons impl_ageIn.ok
noncomputable def impl_sumOfAges.i : FI := ⟨Tryz.f76, body Tryz.f76, (.seq .nil (.seq .nil (.seq (.seq .nil (.blk (.loop [1, 5, 10, 11, 12] [] (.seq .nil (.seq (.cond .nil .nil) (.seq (.blk (.seq .nil (.seq .nil (.seq .nil (.cond .nil .nil))))) .nil)))))) (.seq .nil .nil)))), [], [], [.res (.tmp 4) (.v (.int .i64))]⟩
noncomputable def impl_sumOfAges.sp : CSpec := mkSpec impl_sumOfAges.g T impl_sumOfAges.i
theorem impl_sumOfAges.ok : SpecOk Tryz.prog I 76 impl_sumOfAges.sp := mkSpec_ok hmix hI impl_sumOfAges.gok tok impl_sumOfAges.i Tryz.func76 (by kernel_rfl) (by kernel_rfl) (by kernel_rfl) (by kernel_rfl)
noncomputable def impl_sumOfAges.f (x0 : List Int) (x1 : Int) : Option (Int) := run impl_sumOfAges.g T impl_sumOfAges.i [.v (.slice (.int .i64)) x0, .v (.int .i64) x1]
noncomputable def impl_sumOfAges.l0 (x1 : Int) (x5 : Int) (x10 : List Int) (x11 : Int) (x12 : Int) : Option (Int) := runAt impl_sumOfAges.g T impl_sumOfAges.i [true, true, false, true, false] [(1, .val (.int .i64) x1), (5, .val (.int .i64) x5), (10, .val (.slice (.int .i64)) x10), (11, .val (.int .i64) x11), (12, .val (.int .i64) x12)] []
theorem impl_sumOfAges.f.eq (x0 : List Int) (x1 : Int) : impl_sumOfAges.f x0 x1 =
  impl_sumOfAges.l0 x1 0 x0 (x0.length : Int) 0 := by kernel_rfl
theorem impl_sumOfAges.l0.eq (x1 : Int) (x5 : Int) (x10 : List Int) (x11 : Int) (x12 : Int) : impl_sumOfAges.l0 x1 x5 x10 x11 x12 =
  if (decide (x12 < x11)) = true then
    (rdI x10 x12).bind fun y2 =>
    (impl_ageIn.f y2 x1).bind fun y3 =>
    if y3.2 = true then
      impl_sumOfAges.l0 x1 (IntKind.i64.wrap (x5 + y3.1)) x10 x11 (IntKind.i64.wrap (x12 + 1))
    else
      impl_sumOfAges.l0 x1 x5 x10 x11 (IntKind.i64.wrap (x12 + 1))
  else
    some x5 := (runAt_loop _ _ _ _ _ _).trans (by kernel_rfl)
noncomputable def impl_isRound.g : Gam := []
theorem impl_isRound.gok : GOkI Tryz.prog I impl_isRound.g := GOkI.nil _ _
noncomputable def impl_isRound.i : FI := ⟨Tryz.f75, body Tryz.f75, (.seq .nil (.seq .nil .nil)), [], [], [.res (.tmp 4) (.v .bool)]⟩
noncomputable def impl_isRound.sp : CSpec := mkSpec impl_isRound.g T impl_isRound.i
theorem impl_isRound.ok : SpecOk Tryz.prog I 75 impl_isRound.sp := mkSpec_ok hmix hI impl_isRound.gok tok impl_isRound.i Tryz.func75 (by kernel_rfl) (by kernel_rfl) (by kernel_rfl) (by kernel_rfl)
noncomputable def impl_isRound.f (x0 : Int) (x1 : Int) : Option (Bool) := run impl_isRound.g T impl_isRound.i [.v (.int .i64) x0, .v (.int .i64) x1]
theorem impl_isRound.f.eq (x0 : Int) (x1 : Int) : impl_isRound.f x0 x1 =
  if (decide (x0 > 0)) = true then
    if x1 = 0 then
      none
    else
      some (if true = true then (x0.tmod x1) == 0 else false)
  else
    some false := by kernel_rfl
noncomputable def impl_RoundSums.g : Gam := [(34, impl_AreBirths.sp), (76, impl_sumOfAges.sp), (75, impl_isRound.sp), (73, impl_isSpan.sp), (74, impl_isEvery.sp)]
theorem impl_RoundSums.gok : GOkI Tryz.prog I impl_RoundSums.g := (((((GOkI.nil _ _).cons impl_isEvery.ok).cons impl_isSpan.ok).cons impl_isRound.ok).cons impl_sumOfAges.ok).cons impl_AreBirths.ok
noncomputable def impl_RoundSums.i : FI := ⟨Tryz.f7, body Tryz.f7, (.seq .nil (.seq (.cut [0, 1, 2, 3, 25] [] .nil (.cond (.seq .nil .nil) .nil)) (.seq .nil (.seq (.seq .nil (.blk (.loop [0, 2, 3, 10, 11] [] (.seq (.seq .nil (.cond .nil .nil)) (.seq (.blk (.seq .nil (.cond .nil .nil))) .nil))))) (.seq .nil .nil))))), [], [], [.res (.tmp 8) (.own 3 (.int .i64)), .res (.tmp 9) (.v .bool)]⟩
noncomputable def impl_RoundSums.sp : CSpec := mkSpec impl_RoundSums.g T impl_RoundSums.i
theorem impl_RoundSums.ok : SpecOk Tryz.prog I 7 impl_RoundSums.sp := mkSpec_ok hmix hI impl_RoundSums.gok tok impl_RoundSums.i Tryz.func7 (by kernel_rfl) (by kernel_rfl) (by kernel_rfl) (by kernel_rfl)
noncomputable def impl_RoundSums.f (x0 : List Int) (x1 : Int) (x2 : Int) (x3 : Int) : Option ((List Int) × Bool) := run impl_RoundSums.g T impl_RoundSums.i [.v (.slice (.int .i64)) x0, .v (.int .i64) x1, .v (.int .i64) x2, .v (.int .i64) x3]
noncomputable def impl_RoundSums.j0 (x0 : List Int) (x1 : Int) (x2 : Int) (x3 : Int) (x25 : Bool) : Option ((List Int) × Bool) := runJ impl_RoundSums.g T impl_RoundSums.i [true, false, true] [(0, .val (.slice (.int .i64)) x0), (1, .val (.int .i64) x1), (2, .val (.int .i64) x2), (3, .val (.int .i64) x3), (25, .val .bool x25)] []
noncomputable def impl_RoundSums.l0 (x0 : List Int) (x2 : Int) (x3 : Int) (x10 : List Int) (x11 : Int) : Option ((List Int) × Bool) := runAt impl_RoundSums.g T impl_RoundSums.i [true, true, true, false, true, false] [(0, .val (.slice (.int .i64)) x0), (2, .val (.int .i64) x2), (3, .val (.int .i64) x3), (10, .own 3 (.int .i64) x10), (11, .val (.int .i64) x11)] []
theorem impl_RoundSums.f.eq (x0 : List Int) (x1 : Int) (x2 : Int) (x3 : Int) : impl_RoundSums.f x0 x1 x2 x3 =
  (impl_AreBirths.f x0).bind fun y1 =>
  if (!y1) = true then
    impl_RoundSums.j0 x0 x1 x2 x3 true
  else
    (impl_isSpan.f x1 x2).bind fun y7 =>
    if (if false = true then true else !y7) = true then
      impl_RoundSums.j0 x0 x1 x2 x3 true
    else
      (impl_isEvery.f x3).bind fun y9 =>
      impl_RoundSums.j0 x0 x1 x2 x3 (if false = true then true else !y9) := by kernel_rfl
theorem impl_RoundSums.j0.eq (x0 : List Int) (x1 : Int) (x2 : Int) (x3 : Int) (x25 : Bool) : impl_RoundSums.j0 x0 x1 x2 x3 x25 =
  if x25 = true then
    some ([], false)
  else
    impl_RoundSums.l0 x0 x2 x3 [] x1 := (runJ_eq _ _ _ _ _ _).trans (by kernel_rfl)
theorem impl_RoundSums.l0.eq (x0 : List Int) (x2 : Int) (x3 : Int) (x10 : List Int) (x11 : Int) : impl_RoundSums.l0 x0 x2 x3 x10 x11 =
  if (decide (x11 ≤ x2)) = true then
    (impl_sumOfAges.f x0 x11).bind fun y2 =>
    (impl_isRound.f y2 x3).bind fun y3 =>
    if y3 = true then
      (catI (appMax 8) x10 [x11]).bind fun y4 =>
      impl_RoundSums.l0 x0 x2 x3 y4 (IntKind.i64.wrap (x11 + 1))
    else
      impl_RoundSums.l0 x0 x2 x3 x10 (IntKind.i64.wrap (x11 + 1))
  else
    some (x10, true) := (runAt_loop _ _ _ _ _ _).trans (by kernel_rfl)
noncomputable def spec_l1In.g : Gam := []
theorem spec_l1In.gok : GOkI Tryz.prog I spec_l1In.g := GOkI.nil _ _
noncomputable def spec_l1In.i : FI := ⟨Tryz.f92, body Tryz.f92, (.seq .nil (.seq .nil .nil)), [], [], [.res (.tmp 6) (.v .bool)]⟩
noncomputable def spec_l1In.sp : CSpec := mkSpec spec_l1In.g T spec_l1In.i
theorem spec_l1In.ok : SpecOk Tryz.prog I 92 spec_l1In.sp := mkSpec_ok hmix hI spec_l1In.gok tok spec_l1In.i Tryz.func92 (by kernel_rfl) (by kernel_rfl) (by kernel_rfl) (by kernel_rfl)
noncomputable def spec_l1In.f (x0 : Int) (x1 : Int) (x2 : Int) : Option (Bool) := run spec_l1In.g T spec_l1In.i [.v (.int .i64) x0, .v (.int .i64) x1, .v (.int .i64) x2]
theorem spec_l1In.f.eq (x0 : Int) (x1 : Int) (x2 : Int) : spec_l1In.f x0 x1 x2 =
  if (decide (x0 ≥ x1)) = true then
    some (if true = true then (decide (x0 ≤ x2)) else false)
  else
    some false := by kernel_rfl
noncomputable def spec_l1All.g : Gam := [(92, spec_l1In.sp)]
theorem spec_l1All.gok : GOkI Tryz.prog I spec_l1All.g := (GOkI.nil _ _).cons spec_l1In.ok
noncomputable def spec_l1All.i : FI := ⟨Tryz.f146, body Tryz.f146, (.seq .nil (.seq (.seq .nil (.blk (.loop [1, 2, 9, 10, 11] [] (.seq .nil (.seq (.cond .nil .nil) (.seq (.blk (.seq .nil (.seq .nil (.cond (.seq .nil .nil) .nil)))) .nil)))))) (.seq .nil .nil))), [], [], [.res (.tmp 6) (.v .bool)]⟩
noncomputable def spec_l1All.sp : CSpec := mkSpec spec_l1All.g T spec_l1All.i
theorem spec_l1All.ok : SpecOk Tryz.prog I 146 spec_l1All.sp := mkSpec_ok hmix hI spec_l1All.gok tok spec_l1All.i Tryz.func146 (by kernel_rfl) (by kernel_rfl) (by kernel_rfl) (by kernel_rfl)
noncomputable def spec_l1All.f (x0 : List Int) (x1 : Int) (x2 : Int) : Option (Bool) := run spec_l1All.g T spec_l1All.i [.v (.slice (.int .i64)) x0, .v (.int .i64) x1, .v (.int .i64) x2]
noncomputable def spec_l1All.l0 (x1 : Int) (x2 : Int) (x9 : List Int) (x10 : Int) (x11 : Int) : Option (Bool) := runAt spec_l1All.g T spec_l1All.i [true, false, true, false] [(1, .val (.int .i64) x1), (2, .val (.int .i64) x2), (9, .val (.slice (.int .i64)) x9), (10, .val (.int .i64) x10), (11, .val (.int .i64) x11)] []
theorem spec_l1All.f.eq (x0 : List Int) (x1 : Int) (x2 : Int) : spec_l1All.f x0 x1 x2 =
  spec_l1All.l0 x1 x2 x0 (x0.length : Int) 0 := by kernel_rfl
theorem spec_l1All.l0.eq (x1 : Int) (x2 : Int) (x9 : List Int) (x10 : Int) (x11 : Int) : spec_l1All.l0 x1 x2 x9 x10 x11 =
  if (decide (x11 < x10)) = true then
    (rdI x9 x11).bind fun y2 =>
    (spec_l1In.f y2 x1 x2).bind fun y3 =>
    if (!y3) = true then
      some false
    else
      spec_l1All.l0 x1 x2 x9 x10 (IntKind.i64.wrap (x11 + 1))
  else
    some true := (runAt_loop _ _ _ _ _ _).trans (by kernel_rfl)
noncomputable def spec_roBorn.g : Gam := [(92, spec_l1In.sp), (146, spec_l1All.sp)]
theorem spec_roBorn.gok : GOkI Tryz.prog I spec_roBorn.g := ((GOkI.nil _ _).cons spec_l1All.ok).cons spec_l1In.ok
noncomputable def spec_roBorn.i : FI := ⟨Tryz.f91, body Tryz.f91, (.seq .nil (.seq .nil .nil)), [], [], [.res (.tmp 2) (.v .bool)]⟩
noncomputable def spec_roBorn.sp : CSpec := mkSpec spec_roBorn.g T spec_roBorn.i
theorem spec_roBorn.ok : SpecOk Tryz.prog I 91 spec_roBorn.sp := mkSpec_ok hmix hI spec_roBorn.gok tok spec_roBorn.i Tryz.func91 (by kernel_rfl) (by kernel_rfl) (by kernel_rfl) (by kernel_rfl)
noncomputable def spec_roBorn.f (x0 : List Int) : Option (Bool) := run spec_roBorn.g T spec_roBorn.i [.v (.slice (.int .i64)) x0]
theorem spec_roBorn.f.eq (x0 : List Int) : spec_roBorn.f x0 =
  (spec_l1In.f (x0.length : Int) 1 10).bind fun y2 =>
  if y2 = true then
    (spec_l1All.f x0 0 2900).bind fun y3 =>
    some (if true = true then y3 else false)
  else
    some false := by kernel_rfl
noncomputable def spec_roSpan.g : Gam := [(92, spec_l1In.sp)]
theorem spec_roSpan.gok : GOkI Tryz.prog I spec_roSpan.g := (GOkI.nil _ _).cons spec_l1In.ok
noncomputable def spec_roSpan.i : FI := ⟨Tryz.f141, body Tryz.f141, (.seq .nil (.seq .nil .nil)), [], [], [.res (.tmp 4) (.v .bool)]⟩
noncomputable def spec_roSpan.sp : CSpec := mkSpec spec_roSpan.g T spec_roSpan.i
theorem spec_roSpan.ok : SpecOk Tryz.prog I 141 spec_roSpan.sp := mkSpec_ok hmix hI spec_roSpan.gok tok spec_roSpan.i Tryz.func141 (by kernel_rfl) (by kernel_rfl) (by kernel_rfl) (by kernel_rfl)
noncomputable def spec_roSpan.f (x0 : Int) (x1 : Int) : Option (Bool) := run spec_roSpan.g T spec_roSpan.i [.v (.int .i64) x0, .v (.int .i64) x1]
theorem spec_roSpan.f.eq (x0 : Int) (x1 : Int) : spec_roSpan.f x0 x1 =
  (spec_l1In.f x1 0 3000).bind fun y1 =>
  if y1 = true then
    (spec_l1In.f x0 0 x1).bind fun y2 =>
    if (if true = true then y2 else false) = true then
      some (if true = true then (decide ((IntKind.i64.wrap (x1 - x0)) < 200)) else false)
    else
      some false
  else
    some false := by kernel_rfl
noncomputable def spec_roEvery.g : Gam := [(92, spec_l1In.sp)]
theorem spec_roEvery.gok : GOkI Tryz.prog I spec_roEvery.g := (GOkI.nil _ _).cons spec_l1In.ok
noncomputable def spec_roEvery.i : FI := ⟨Tryz.f142, body Tryz.f142, (.seq .nil (.seq .nil .nil)), [], [], [.res (.tmp 2) (.v .bool)]⟩
noncomputable def spec_roEvery.sp : CSpec := mkSpec spec_roEvery.g T spec_roEvery.i
theorem spec_roEvery.ok : SpecOk Tryz.prog I 142 spec_roEvery.sp := mkSpec_ok hmix hI spec_roEvery.gok tok spec_roEvery.i Tryz.func142 (by kernel_rfl) (by kernel_rfl) (by kernel_rfl) (by kernel_rfl)
noncomputable def spec_roEvery.f (x0 : Int) : Option (Bool) := run spec_roEvery.g T spec_roEvery.i [.v (.int .i64) x0]
theorem spec_roEvery.f.eq (x0 : Int) : spec_roEvery.f x0 =
  (spec_l1In.f x0 1 100).bind fun y1 =>
  some y1 := by kernel_rfl
noncomputable def spec_roAll.g : Gam := [(91, spec_roBorn.sp), (141, spec_roSpan.sp), (142, spec_roEvery.sp)]
theorem spec_roAll.gok : GOkI Tryz.prog I spec_roAll.g := (((GOkI.nil _ _).cons spec_roEvery.ok).cons spec_roSpan.ok).cons spec_roBorn.ok
noncomputable def spec_roAll.i : FI := ⟨Tryz.f77, body Tryz.f77, (.seq .nil (.seq .nil .nil)), [], [], [.res (.tmp 8) (.v .bool)]⟩
noncomputable def spec_roAll.sp : CSpec := mkSpec spec_roAll.g T spec_roAll.i
theorem spec_roAll.ok : SpecOk Tryz.prog I 77 spec_roAll.sp := mkSpec_ok hmix hI spec_roAll.gok tok spec_roAll.i Tryz.func77 (by kernel_rfl) (by kernel_rfl) (by kernel_rfl) (by kernel_rfl)
noncomputable def spec_roAll.f (x0 : List Int) (x1 : Int) (x2 : Int) (x3 : Int) : Option (Bool) := run spec_roAll.g T spec_roAll.i [.v (.slice (.int .i64)) x0, .v (.int .i64) x1, .v (.int .i64) x2, .v (.int .i64) x3]
theorem spec_roAll.f.eq (x0 : List Int) (x1 : Int) (x2 : Int) (x3 : Int) : spec_roAll.f x0 x1 x2 x3 =
  (spec_roBorn.f x0).bind fun y1 =>
  if y1 = true then
    (spec_roSpan.f x1 x2).bind fun y2 =>
    if (if true = true then y2 else false) = true then
      (spec_roEvery.f x3).bind fun y4 =>
      some (if true = true then y4 else false)
    else
      some false
  else
    some false := by kernel_rfl
noncomputable def spec_roAge.g : Gam := [(92, spec_l1In.sp)]
theorem spec_roAge.gok : GOkI Tryz.prog I spec_roAge.g := (GOkI.nil _ _).cons spec_l1In.ok
noncomputable def spec_roAge.i : FI := ⟨Tryz.f86, body Tryz.f86, (.seq .nil (.seq (.seq .nil (.cond (.seq .nil .nil) .nil)) (.seq .nil .nil))), [], [], [.res (.tmp 4) (.v (.int .i64))]⟩
noncomputable def spec_roAge.sp : CSpec := mkSpec spec_roAge.g T spec_roAge.i
theorem spec_roAge.ok : SpecOk Tryz.prog I 86 spec_roAge.sp := mkSpec_ok hmix hI spec_roAge.gok tok spec_roAge.i Tryz.func86 (by kernel_rfl) (by kernel_rfl) (by kernel_rfl) (by kernel_rfl)
noncomputable def spec_roAge.f (x0 : Int) (x1 : Int) : Option (Int) := run spec_roAge.g T spec_roAge.i [.v (.int .i64) x0, .v (.int .i64) x1]
theorem spec_roAge.f.eq (x0 : Int) (x1 : Int) : spec_roAge.f x0 x1 =
  (spec_l1In.f (IntKind.i64.wrap (x1 - x0)) 0 120).bind fun y2 =>
  if (!y2) = true then
    some (-1)
  else
    some (IntKind.i64.wrap (x1 - x0)) := by kernel_rfl
noncomputable def spec_l1Most.g : Gam := []
theorem spec_l1Most.gok : GOkI Tryz.prog I spec_l1Most.g := GOkI.nil _ _
noncomputable def spec_l1Most.i : FI := ⟨Tryz.f143, body Tryz.f143, (.seq .nil (.seq (.seq .nil (.cond (.seq .nil .nil) .nil)) (.seq .nil .nil))), [], [], [.res (.tmp 4) (.v (.int .i64))]⟩
noncomputable def spec_l1Most.sp : CSpec := mkSpec spec_l1Most.g T spec_l1Most.i
theorem spec_l1Most.ok : SpecOk Tryz.prog I 143 spec_l1Most.sp := mkSpec_ok hmix hI spec_l1Most.gok tok spec_l1Most.i Tryz.func143 (by kernel_rfl) (by kernel_rfl) (by kernel_rfl) (by kernel_rfl)
noncomputable def spec_l1Most.f (x0 : Int) (x1 : Int) : Option (Int) := run spec_l1Most.g T spec_l1Most.i [.v (.int .i64) x0, .v (.int .i64) x1]
theorem spec_l1Most.f.eq (x0 : Int) (x1 : Int) : spec_l1Most.f x0 x1 =
  if (decide (x0 > x1)) = true then
    some x0
  else
    some x1 := by kernel_rfl
noncomputable def spec_roSum.g : Gam := [(86, spec_roAge.sp), (143, spec_l1Most.sp)]
theorem spec_roSum.gok : GOkI Tryz.prog I spec_roSum.g := ((GOkI.nil _ _).cons spec_l1Most.ok).cons spec_roAge.ok
noncomputable def spec_roSum.i : FI := ⟨Tryz.f79, body Tryz.f79, (.seq .nil (.seq .nil (.seq (.seq .nil (.blk (.loop [1, 5, 8, 9, 10] [] (.seq .nil (.seq (.cond .nil .nil) (.seq (.blk (.seq .nil .nil)) .nil)))))) (.seq .nil .nil)))), [], [], [.res (.tmp 4) (.v (.int .i64))]⟩
noncomputable def spec_roSum.sp : CSpec := mkSpec spec_roSum.g T spec_roSum.i
theorem spec_roSum.ok : SpecOk Tryz.prog I 79 spec_roSum.sp := mkSpec_ok hmix hI spec_roSum.gok tok spec_roSum.i Tryz.func79 (by kernel_rfl) (by kernel_rfl) (by kernel_rfl) (by kernel_rfl)
noncomputable def spec_roSum.f (x0 : List Int) (x1 : Int) : Option (Int) := run spec_roSum.g T spec_roSum.i [.v (.slice (.int .i64)) x0, .v (.int .i64) x1]
noncomputable def spec_roSum.l0 (x1 : Int) (x5 : Int) (x8 : List Int) (x9 : Int) (x10 : Int) : Option (Int) := runAt spec_roSum.g T spec_roSum.i [true, true, false, true, false] [(1, .val (.int .i64) x1), (5, .val (.int .i64) x5), (8, .val (.slice (.int .i64)) x8), (9, .val (.int .i64) x9), (10, .val (.int .i64) x10)] []
theorem spec_roSum.f.eq (x0 : List Int) (x1 : Int) : spec_roSum.f x0 x1 =
  spec_roSum.l0 x1 0 x0 (x0.length : Int) 0 := by kernel_rfl
theorem spec_roSum.l0.eq (x1 : Int) (x5 : Int) (x8 : List Int) (x9 : Int) (x10 : Int) : spec_roSum.l0 x1 x5 x8 x9 x10 =
  if (decide (x10 < x9)) = true then
    (rdI x8 x10).bind fun y2 =>
    (spec_roAge.f y2 x1).bind fun y3 =>
    (spec_l1Most.f 0 y3).bind fun y4 =>
    spec_roSum.l0 x1 (IntKind.i64.wrap (x5 + y4)) x8 x9 (IntKind.i64.wrap (x10 + 1))
  else
    some x5 := (runAt_loop _ _ _ _ _ _).trans (by kernel_rfl)
noncomputable def spec_roRound.g : Gam := []
theorem spec_roRound.gok : GOkI Tryz.prog I spec_roRound.g := GOkI.nil _ _
noncomputable def spec_roRound.i : FI := ⟨Tryz.f78, body Tryz.f78, (.seq .nil (.seq .nil .nil)), [], [], [.res (.tmp 4) (.v .bool)]⟩
noncomputable def spec_roRound.sp : CSpec := mkSpec spec_roRound.g T spec_roRound.i
theorem spec_roRound.ok : SpecOk Tryz.prog I 78 spec_roRound.sp := mkSpec_ok hmix hI spec_roRound.gok tok spec_roRound.i Tryz.func78 (by kernel_rfl) (by kernel_rfl) (by kernel_rfl) (by kernel_rfl)
noncomputable def spec_roRound.f (x0 : Int) (x1 : Int) : Option (Bool) := run spec_roRound.g T spec_roRound.i [.v (.int .i64) x0, .v (.int .i64) x1]
theorem spec_roRound.f.eq (x0 : Int) (x1 : Int) : spec_roRound.f x0 x1 =
  if (decide (x0 > 0)) = true then
    if x1 = 0 then
      none
    else
      some (if true = true then (x0.tmod x1) == 0 else false)
  else
    some false := by kernel_rfl
noncomputable def spec_RoundSums.g : Gam := [(77, spec_roAll.sp), (79, spec_roSum.sp), (78, spec_roRound.sp)]
theorem spec_RoundSums.gok : GOkI Tryz.prog I spec_RoundSums.g := (((GOkI.nil _ _).cons spec_roRound.ok).cons spec_roSum.ok).cons spec_roAll.ok
noncomputable def spec_RoundSums.i : FI := ⟨Tryz.f8, body Tryz.f8, (.seq .nil (.seq (.seq .nil (.cond (.seq .nil .nil) .nil)) (.seq .nil (.seq (.seq .nil (.blk (.loop [0, 2, 3, 10, 11] [] (.seq (.seq .nil (.cond .nil .nil)) (.seq (.blk (.seq .nil (.cond .nil .nil))) .nil))))) (.seq .nil .nil))))), [], [], [.res (.tmp 8) (.own 3 (.int .i64)), .res (.tmp 9) (.v .bool)]⟩
noncomputable def spec_RoundSums.sp : CSpec := mkSpec spec_RoundSums.g T spec_RoundSums.i
theorem spec_RoundSums.ok : SpecOk Tryz.prog I 8 spec_RoundSums.sp := mkSpec_ok hmix hI spec_RoundSums.gok tok spec_RoundSums.i Tryz.func8 (by kernel_rfl) (by kernel_rfl) (by kernel_rfl) (by kernel_rfl)
noncomputable def spec_RoundSums.f (x0 : List Int) (x1 : Int) (x2 : Int) (x3 : Int) : Option ((List Int) × Bool) := run spec_RoundSums.g T spec_RoundSums.i [.v (.slice (.int .i64)) x0, .v (.int .i64) x1, .v (.int .i64) x2, .v (.int .i64) x3]
noncomputable def spec_RoundSums.l0 (x0 : List Int) (x2 : Int) (x3 : Int) (x10 : List Int) (x11 : Int) : Option ((List Int) × Bool) := runAt spec_RoundSums.g T spec_RoundSums.i [true, true, true, false, true, false] [(0, .val (.slice (.int .i64)) x0), (2, .val (.int .i64) x2), (3, .val (.int .i64) x3), (10, .own 3 (.int .i64) x10), (11, .val (.int .i64) x11)] []
theorem spec_RoundSums.f.eq (x0 : List Int) (x1 : Int) (x2 : Int) (x3 : Int) : spec_RoundSums.f x0 x1 x2 x3 =
  (spec_roAll.f x0 x1 x2 x3).bind fun y1 =>
  if (!y1) = true then
    some ([], false)
  else
    spec_RoundSums.l0 x0 x2 x3 [] x1 := by kernel_rfl
theorem spec_RoundSums.l0.eq (x0 : List Int) (x2 : Int) (x3 : Int) (x10 : List Int) (x11 : Int) : spec_RoundSums.l0 x0 x2 x3 x10 x11 =
  if (decide (x11 ≤ x2)) = true then
    (spec_roSum.f x0 x11).bind fun y2 =>
    (spec_roRound.f y2 x3).bind fun y3 =>
    if y3 = true then
      (catI (appMax 8) x10 [x11]).bind fun y4 =>
      spec_RoundSums.l0 x0 x2 x3 y4 (IntKind.i64.wrap (x11 + 1))
    else
      spec_RoundSums.l0 x0 x2 x3 x10 (IntKind.i64.wrap (x11 + 1))
  else
    some (x10, true) := (runAt_loop _ _ _ _ _ _).trans (by kernel_rfl)
noncomputable def laws_qSame.g : Gam := []
theorem laws_qSame.gok : GOkI Tryz.prog I laws_qSame.g := GOkI.nil _ _
noncomputable def laws_qSame.i : FI := ⟨Tryz.f9, body Tryz.f9, (.seq .nil (.seq (.seq .nil (.cond (.seq .nil .nil) .nil)) (.seq (.seq .nil (.blk (.loop [0, 1, 12, 13] [] (.seq .nil (.seq (.cond .nil .nil) (.seq (.blk (.seq .nil (.seq .nil (.cond (.seq .nil .nil) .nil)))) .nil)))))) (.seq .nil .nil)))), [], [], [.res (.tmp 4) (.v .bool)]⟩
noncomputable def laws_qSame.sp : CSpec := mkSpec laws_qSame.g T laws_qSame.i
theorem laws_qSame.ok : SpecOk Tryz.prog I 9 laws_qSame.sp := mkSpec_ok hmix hI laws_qSame.gok tok laws_qSame.i Tryz.func9 (by kernel_rfl) (by kernel_rfl) (by kernel_rfl) (by kernel_rfl)
noncomputable def laws_qSame.f (x0 : List Int) (x1 : List Int) : Option (Bool) := run laws_qSame.g T laws_qSame.i [.v (.slice (.int .i64)) x0, .v (.slice (.int .i64)) x1]
noncomputable def laws_qSame.l0 (x0 : List Int) (x1 : List Int) (x12 : Int) (x13 : Int) : Option (Bool) := runAt laws_qSame.g T laws_qSame.i [true, true, false, true, false] [(0, .val (.slice (.int .i64)) x0), (1, .val (.slice (.int .i64)) x1), (12, .val (.int .i64) x12), (13, .val (.int .i64) x13)] []
theorem laws_qSame.f.eq (x0 : List Int) (x1 : List Int) : laws_qSame.f x0 x1 =
  if ((x0.length : Int) != (x1.length : Int)) = true then
    some false
  else
    laws_qSame.l0 x0 x1 (x0.length : Int) 0 := by kernel_rfl
theorem laws_qSame.l0.eq (x0 : List Int) (x1 : List Int) (x12 : Int) (x13 : Int) : laws_qSame.l0 x0 x1 x12 x13 =
  if (decide (x13 < x12)) = true then
    (rdI x0 x13).bind fun y2 =>
    (rdI x1 x13).bind fun y3 =>
    if (y2 != y3) = true then
      some false
    else
      laws_qSame.l0 x0 x1 x12 (IntKind.i64.wrap (x13 + 1))
  else
    some true := (runAt_loop _ _ _ _ _ _).trans (by kernel_rfl)
noncomputable def laws_qRises.g : Gam := []
theorem laws_qRises.gok : GOkI Tryz.prog I laws_qRises.g := GOkI.nil _ _
noncomputable def laws_qRises.i : FI := ⟨Tryz.f10, body Tryz.f10, (.seq .nil (.seq (.seq .nil (.blk (.loop [0, 3] [] (.seq (.seq .nil (.cond .nil .nil)) (.seq (.blk (.seq .nil (.cond (.seq .nil .nil) .nil))) .nil))))) (.seq .nil .nil))), [], [], [.res (.tmp 2) (.v .bool)]⟩
noncomputable def laws_qRises.sp : CSpec := mkSpec laws_qRises.g T laws_qRises.i
theorem laws_qRises.ok : SpecOk Tryz.prog I 10 laws_qRises.sp := mkSpec_ok hmix hI laws_qRises.gok tok laws_qRises.i Tryz.func10 (by kernel_rfl) (by kernel_rfl) (by kernel_rfl) (by kernel_rfl)
noncomputable def laws_qRises.f (x0 : List Int) : Option (Bool) := run laws_qRises.g T laws_qRises.i [.v (.slice (.int .i64)) x0]
noncomputable def laws_qRises.l0 (x0 : List Int) (x3 : Int) : Option (Bool) := runAt laws_qRises.g T laws_qRises.i [true, false, true, false] [(0, .val (.slice (.int .i64)) x0), (3, .val (.int .i64) x3)] []
theorem laws_qRises.f.eq (x0 : List Int) : laws_qRises.f x0 =
  laws_qRises.l0 x0 1 := by kernel_rfl
theorem laws_qRises.l0.eq (x0 : List Int) (x3 : Int) : laws_qRises.l0 x0 x3 =
  if (decide (x3 < (x0.length : Int))) = true then
    (rdI x0 (IntKind.i64.wrap (x3 - 1))).bind fun y4 =>
    (rdI x0 x3).bind fun y5 =>
    if (decide (y4 ≥ y5)) = true then
      some false
    else
      laws_qRises.l0 x0 (IntKind.i64.wrap (x3 + 1))
  else
    some true := (runAt_loop _ _ _ _ _ _).trans (by kernel_rfl)
noncomputable def impl_SumOfAges.g : Gam := [(34, impl_AreBirths.sp), (80, impl_isYear.sp), (76, impl_sumOfAges.sp)]
theorem impl_SumOfAges.gok : GOkI Tryz.prog I impl_SumOfAges.g := (((GOkI.nil _ _).cons impl_sumOfAges.ok).cons impl_isYear.ok).cons impl_AreBirths.ok
noncomputable def impl_SumOfAges.i : FI := ⟨Tryz.f11, body Tryz.f11, (.seq .nil (.seq (.seq .nil (.cond (.seq .nil .nil) .nil)) (.seq .nil .nil))), [], [], [.res (.tmp 4) (.v (.int .i64)), .res (.tmp 5) (.v .bool)]⟩
noncomputable def impl_SumOfAges.sp : CSpec := mkSpec impl_SumOfAges.g T impl_SumOfAges.i
theorem impl_SumOfAges.ok : SpecOk Tryz.prog I 11 impl_SumOfAges.sp := mkSpec_ok hmix hI impl_SumOfAges.gok tok impl_SumOfAges.i Tryz.func11 (by kernel_rfl) (by kernel_rfl) (by kernel_rfl) (by kernel_rfl)
noncomputable def impl_SumOfAges.f (x0 : List Int) (x1 : Int) : Option (Int × Bool) := run impl_SumOfAges.g T impl_SumOfAges.i [.v (.slice (.int .i64)) x0, .v (.int .i64) x1]
theorem impl_SumOfAges.f.eq (x0 : List Int) (x1 : Int) : impl_SumOfAges.f x0 x1 =
  (impl_AreBirths.f x0).bind fun y1 =>
  if (!y1) = true then
    some (0, false)
  else
    (impl_isYear.f x1).bind fun y2 =>
    if (if false = true then true else !y2) = true then
      some (0, false)
    else
      (impl_sumOfAges.f x0 x1).bind fun y4 =>
      some (y4, true) := by kernel_rfl
end Go.Proofs.YtpnkeknmgfdpdaaGreatDoorRR.S
