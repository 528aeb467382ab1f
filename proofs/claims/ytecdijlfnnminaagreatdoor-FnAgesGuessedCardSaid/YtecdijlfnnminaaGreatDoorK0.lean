/- What the functions of this seat come to, over plain values. No condition. -/
import Derived.Test.YtecdijlfnnminaaGreatDoorE3
import Derived.Test.YtecdijlfnnminaaGreatDoorH
import Derived.Test.YtecdijlfnnminaaGreatDoorProg
namespace Go.Proofs.YtecdijlfnnminaaGreatDoor.S
open Go Go.Proofs.YtecdijlfnnminaaGreatDoor.Eng Go.Proofs
set_option maxRecDepth 1000000
set_option linter.unusedVariables false
def T : Tys := [(3, ⟨(.int .i64), 0, 0, []⟩), (4, ⟨.bool, 0, 0, []⟩), (5, ⟨(.int .u8), 0, 0, []⟩), (9, ⟨.str, 0, 0, []⟩), (22, ⟨(.slice (.int .u8)), 5, 1, []⟩), (24, ⟨(.slice (.pair (.int .i64) (.pair (.int .i64) (.int .i64)))), 46, 24, []⟩), (26, ⟨(.pair (.int .i64) (.slice (.pair (.int .i64) (.pair (.int .i64) (.int .i64))))), 0, 0, [(3, 0), (24, 1)]⟩), (28, ⟨(.slice (.slice (.int .i64))), 33, 24, []⟩), (33, ⟨(.slice (.int .i64)), 3, 8, []⟩), (46, ⟨(.pair (.int .i64) (.pair (.int .i64) (.int .i64))), 0, 0, [(3, 0), (3, 1), (3, 2)]⟩), (69, ⟨(.slice .str), 9, 16, []⟩), (73, ⟨(.int .u64), 0, 0, []⟩), (75, ⟨(.pair (.slice (.int .u8)) (.pair (.int .i64) (.int .u64))), 0, 0, [(22, 0), (3, 1), (73, 2)]⟩)]
theorem tok3 : TFits Tryz.prog T 3 ⟨(.int .i64), 0, 0, []⟩ := TFits.int' (by kernel_rfl) (by kernel_rfl) (by kernel_rfl)
theorem tok4 : TFits Tryz.prog T 4 ⟨.bool, 0, 0, []⟩ := TFits.bool' (by kernel_rfl) (by kernel_rfl) (by kernel_rfl)
theorem tok5 : TFits Tryz.prog T 5 ⟨(.int .u8), 0, 0, []⟩ := TFits.int' (by kernel_rfl) (by kernel_rfl) (by kernel_rfl)
theorem tok9 : TFits Tryz.prog T 9 ⟨.str, 0, 0, []⟩ := TFits.str' (by kernel_rfl) (by kernel_rfl) (by kernel_rfl)
theorem tok22 : TFits Tryz.prog T 22 ⟨(.slice (.int .u8)), 5, 1, []⟩ := TFits.slice' (by kernel_rfl) (by kernel_rfl) (by kernel_rfl) (by kernel_rfl) (by kernel_rfl) (by kernel_rfl)
theorem tok24 : TFits Tryz.prog T 24 ⟨(.slice (.pair (.int .i64) (.pair (.int .i64) (.int .i64)))), 46, 24, []⟩ := TFits.slice' (by kernel_rfl) (by kernel_rfl) (by kernel_rfl) (by kernel_rfl) (by kernel_rfl) (by kernel_rfl)
theorem tok26 : TFits Tryz.prog T 26 ⟨(.pair (.int .i64) (.slice (.pair (.int .i64) (.pair (.int .i64) (.int .i64))))), 0, 0, [(3, 0), (24, 1)]⟩ := TFits.pair' (by kernel_rfl) (by kernel_rfl) (by kernel_rfl) (by kernel_rfl) (by kernel_rfl)
theorem tok28 : TFits Tryz.prog T 28 ⟨(.slice (.slice (.int .i64))), 33, 24, []⟩ := TFits.slice' (by kernel_rfl) (by kernel_rfl) (by kernel_rfl) (by kernel_rfl) (by kernel_rfl) (by kernel_rfl)
theorem tok33 : TFits Tryz.prog T 33 ⟨(.slice (.int .i64)), 3, 8, []⟩ := TFits.slice' (by kernel_rfl) (by kernel_rfl) (by kernel_rfl) (by kernel_rfl) (by kernel_rfl) (by kernel_rfl)
theorem tok46 : TFits Tryz.prog T 46 ⟨(.pair (.int .i64) (.pair (.int .i64) (.int .i64))), 0, 0, [(3, 0), (3, 1), (3, 2)]⟩ := TFits.pair' (by kernel_rfl) (by kernel_rfl) (by kernel_rfl) (by kernel_rfl) (by kernel_rfl)
theorem tok69 : TFits Tryz.prog T 69 ⟨(.slice .str), 9, 16, []⟩ := TFits.slice' (by kernel_rfl) (by kernel_rfl) (by kernel_rfl) (by kernel_rfl) (by kernel_rfl) (by kernel_rfl)
theorem tok73 : TFits Tryz.prog T 73 ⟨(.int .u64), 0, 0, []⟩ := TFits.int' (by kernel_rfl) (by kernel_rfl) (by kernel_rfl)
theorem tok75 : TFits Tryz.prog T 75 ⟨(.pair (.slice (.int .u8)) (.pair (.int .i64) (.int .u64))), 0, 0, [(22, 0), (3, 1), (73, 2)]⟩ := TFits.pair' (by kernel_rfl) (by kernel_rfl) (by kernel_rfl) (by kernel_rfl) (by kernel_rfl)
theorem tok : TOk Tryz.prog T := TOkL.ok ((((((((((((((TOkL.nil _ _).cons tok75).cons tok73).cons tok69).cons tok46).cons tok33).cons tok28).cons tok26).cons tok24).cons tok22).cons tok9).cons tok5).cons tok4).cons tok3)
theorem hmix : Tryz.prog.follows .mixedOrders = true := by kernel_rfl
def body (f : Func) : Code := f.body.getD .skip
noncomputable def laws_big.g : Gam := []
theorem laws_big.gok : GOkI Tryz.prog I laws_big.g := GOkI.nil _ _
noncomputable def laws_big.i : FI := ⟨Tryz.f4, body Tryz.f4, (.seq .nil (.seq .nil .nil)), [], [], [.res (.tmp 4) (.v .bool)]⟩
noncomputable def laws_big.sp : CSpec := mkSpec laws_big.g T laws_big.i
theorem laws_big.ok : SpecOk Tryz.prog I 4 laws_big.sp := mkSpec_ok hmix hI laws_big.gok tok laws_big.i Tryz.func4 (by kernel_rfl) (by kernel_rfl) (by kernel_rfl) (by kernel_rfl)
noncomputable def laws_big.f (x0 : List Int) (x1 : List Int) : Option (Bool) := run laws_big.g T laws_big.i [.v (.slice (.int .u8)) x0, .v (.slice (.int .u8)) x1]
theorem laws_big.f.eq (x0 : List Int) (x1 : List Int) : laws_big.f x0 x1 =
 if (decide ((x0.length : Int) > 1048576)) = true then
  some true
 else
  some (if false = true then true else (decide ((x1.length : Int) > (IntKind.i64.wrap (1048576 - (x0.length : Int)))))) := by kernel_rfl
noncomputable def spec_l1Cur_next.g : Gam := []
theorem spec_l1Cur_next.gok : GOkI Tryz.prog I spec_l1Cur_next.g := GOkI.nil _ _
noncomputable def spec_l1Cur_next.i : FI := ⟨Tryz.f113, body Tryz.f113, (.seq .nil (.seq .nil (.seq (.seq .nil (.cond .nil .nil)) (.seq .nil (.seq .nil (.seq (.seq .nil (.cond (.seq .nil .nil) .nil)) (.seq .nil .nil))))))), [], [1000000], [.res (.tmp 2) (.v (.int .i64)), .box 1000000 0 (.v (.slice (.int .u8))), .box 1000000 1 (.v (.int .i64)), .box 1000000 2 (.v (.int .u64))]⟩
noncomputable def spec_l1Cur_next.sp : CSpec := mkSpec spec_l1Cur_next.g T spec_l1Cur_next.i
theorem spec_l1Cur_next.ok : SpecOk Tryz.prog I 113 spec_l1Cur_next.sp := mkSpec_ok hmix hI spec_l1Cur_next.gok tok spec_l1Cur_next.i Tryz.func113 (by kernel_rfl) (by kernel_rfl) (by kernel_rfl) (by kernel_rfl)
noncomputable def spec_l1Cur_next.f (x0_0 : List Int) (x0_1 : Int) (x0_2 : Int) : Option (Int × (List Int) × Int × Int) := run spec_l1Cur_next.g T spec_l1Cur_next.i [.bx [⟨(.slice (.int .u8)), x0_0⟩, ⟨(.int .i64), x0_1⟩, ⟨(.int .u64), x0_2⟩]]
theorem spec_l1Cur_next.f.eq (x0_0 : List Int) (x0_1 : Int) (x0_2 : Int) : spec_l1Cur_next.f x0_0 x0_1 x0_2 =
 if (decide (x0_1 < (x0_0.length : Int))) = true then
  (rdI x0_0 x0_1).bind fun y3 =>
  let y5 := IntKind.i64.wrap (x0_1 + 1)
  let y9 := IntKind.u64.wrap ((IntKind.u64.wrap ((IntKind.u64.wrap (x0_2 * 6364136223846793005)) + (IntKind.u64.wrap (IntKind.i64.wrap y3)))) + 1442695040888963407)
  if (decide (y5 ≤ (x0_0.length : Int))) = true then
   some ((IntKind.i64.wrap y3), x0_0, y5, y9)
  else
   some ((IntKind.i64.wrap (bitI .and .u64 (shrI .u64 y9 40) 255)), x0_0, y5, y9)
 else
  let y15 := IntKind.i64.wrap (x0_1 + 1)
  let y19 := IntKind.u64.wrap ((IntKind.u64.wrap ((IntKind.u64.wrap (x0_2 * 6364136223846793005)) + (IntKind.u64.wrap 0))) + 1442695040888963407)
  if (decide (y15 ≤ (x0_0.length : Int))) = true then
   some (0, x0_0, y15, y19)
  else
   some ((IntKind.i64.wrap (bitI .and .u64 (shrI .u64 y19 40) 255)), x0_0, y15, y19) := by kernel_rfl
noncomputable def spec_l1Cur_pick.g : Gam := [(113, spec_l1Cur_next.sp)]
theorem spec_l1Cur_pick.gok : GOkI Tryz.prog I spec_l1Cur_pick.g := (GOkI.nil _ _).cons spec_l1Cur_next.ok
noncomputable def spec_l1Cur_pick.i : FI := ⟨Tryz.f87, body Tryz.f87, (.seq .nil (.seq (.seq .nil (.cond (.seq .nil .nil) .nil)) (.seq .nil (.seq (.seq .nil (.cond .nil .nil)) (.seq .nil .nil))))), [], [1000000], [.res (.tmp 4) (.v (.int .i64)), .box 1000000 0 (.v (.slice (.int .u8))), .box 1000000 1 (.v (.int .i64)), .box 1000000 2 (.v (.int .u64))]⟩
noncomputable def spec_l1Cur_pick.sp : CSpec := mkSpec spec_l1Cur_pick.g T spec_l1Cur_pick.i
theorem spec_l1Cur_pick.ok : SpecOk Tryz.prog I 87 spec_l1Cur_pick.sp := mkSpec_ok hmix hI spec_l1Cur_pick.gok tok spec_l1Cur_pick.i Tryz.func87 (by kernel_rfl) (by kernel_rfl) (by kernel_rfl) (by kernel_rfl)
noncomputable def spec_l1Cur_pick.f (x0_0 : List Int) (x0_1 : Int) (x0_2 : Int) (x1 : Int) : Option (Int × (List Int) × Int × Int) := run spec_l1Cur_pick.g T spec_l1Cur_pick.i [.bx [⟨(.slice (.int .u8)), x0_0⟩, ⟨(.int .i64), x0_1⟩, ⟨(.int .u64), x0_2⟩], .v (.int .i64) x1]
theorem spec_l1Cur_pick.f.eq (x0_0 : List Int) (x0_1 : Int) (x0_2 : Int) (x1 : Int) : spec_l1Cur_pick.f x0_0 x0_1 x0_2 x1 =
 if (decide (x1 ≤ 1)) = true then
  some (0, x0_0, x0_1, x0_2)
 else
  (spec_l1Cur_next.f x0_0 x0_1 x0_2).bind fun y2 =>
  if (decide (x1 > 200)) = true then
   (spec_l1Cur_next.f y2.2.1 y2.2.2.1 y2.2.2.2).bind fun y5 =>
   if x1 = 0 then
    none
   else
    some (((IntKind.i64.wrap ((IntKind.i64.wrap (y2.1 * 256)) + y5.1)).tmod x1), y5.2.1, y5.2.2.1, y5.2.2.2)
  else
   if x1 = 0 then
    none
   else
    some ((y2.1.tmod x1), y2.2.1, y2.2.2.1, y2.2.2.2) := by kernel_rfl
noncomputable def spec_l1Cur_one.g : Gam := [(87, spec_l1Cur_pick.sp)]
theorem spec_l1Cur_one.gok : GOkI Tryz.prog I spec_l1Cur_one.g := (GOkI.nil _ _).cons spec_l1Cur_pick.ok
noncomputable def spec_l1Cur_one.i : FI := ⟨Tryz.f62, body Tryz.f62, (.seq .nil (.seq .nil .nil)), [], [1000000], [.res (.tmp 4) (.v .bool), .box 1000000 0 (.v (.slice (.int .u8))), .box 1000000 1 (.v (.int .i64)), .box 1000000 2 (.v (.int .u64))]⟩
noncomputable def spec_l1Cur_one.sp : CSpec := mkSpec spec_l1Cur_one.g T spec_l1Cur_one.i
theorem spec_l1Cur_one.ok : SpecOk Tryz.prog I 62 spec_l1Cur_one.sp := mkSpec_ok hmix hI spec_l1Cur_one.gok tok spec_l1Cur_one.i Tryz.func62 (by kernel_rfl) (by kernel_rfl) (by kernel_rfl) (by kernel_rfl)
noncomputable def spec_l1Cur_one.f (x0_0 : List Int) (x0_1 : Int) (x0_2 : Int) (x1 : Int) : Option (Bool × (List Int) × Int × Int) := run spec_l1Cur_one.g T spec_l1Cur_one.i [.bx [⟨(.slice (.int .u8)), x0_0⟩, ⟨(.int .i64), x0_1⟩, ⟨(.int .u64), x0_2⟩], .v (.int .i64) x1]
theorem spec_l1Cur_one.f.eq (x0_0 : List Int) (x0_1 : Int) (x0_2 : Int) (x1 : Int) : spec_l1Cur_one.f x0_0 x0_1 x0_2 x1 =
 (spec_l1Cur_pick.f x0_0 x0_1 x0_2 x1).bind fun y1 =>
 some ((y1.1 == 0), y1.2.1, y1.2.2.1, y1.2.2.2) := by kernel_rfl
noncomputable def spec_l1Cur_hidden.g : Gam := [(87, spec_l1Cur_pick.sp), (62, spec_l1Cur_one.sp)]
theorem spec_l1Cur_hidden.gok : GOkI Tryz.prog I spec_l1Cur_hidden.g := ((GOkI.nil _ _).cons spec_l1Cur_one.ok).cons spec_l1Cur_pick.ok
noncomputable def spec_l1Cur_hidden.i : FI := ⟨Tryz.f86, body Tryz.f86, (.seq .nil (.seq .nil (.seq (.seq .nil (.cond .nil .nil)) (.seq .nil .nil)))), [], [1000000], [.res (.tmp 2) (.own 3 (.int .i64)), .box 1000000 0 (.v (.slice (.int .u8))), .box 1000000 1 (.v (.int .i64)), .box 1000000 2 (.v (.int .u64))]⟩
noncomputable def spec_l1Cur_hidden.sp : CSpec := mkSpec spec_l1Cur_hidden.g T spec_l1Cur_hidden.i
theorem spec_l1Cur_hidden.ok : SpecOk Tryz.prog I 86 spec_l1Cur_hidden.sp := mkSpec_ok hmix hI spec_l1Cur_hidden.gok tok spec_l1Cur_hidden.i Tryz.func86 (by kernel_rfl) (by kernel_rfl) (by kernel_rfl) (by kernel_rfl)
noncomputable def spec_l1Cur_hidden.f (x0_0 : List Int) (x0_1 : Int) (x0_2 : Int) : Option ((List Int) × (List Int) × Int × Int) := run spec_l1Cur_hidden.g T spec_l1Cur_hidden.i [.bx [⟨(.slice (.int .u8)), x0_0⟩, ⟨(.int .i64), x0_1⟩, ⟨(.int .u64), x0_2⟩]]
theorem spec_l1Cur_hidden.f.eq (x0_0 : List Int) (x0_1 : Int) (x0_2 : Int) : spec_l1Cur_hidden.f x0_0 x0_1 x0_2 =
 (spec_l1Cur_pick.f x0_0 x0_1 x0_2 12).bind fun y1 =>
 let y2 := IntKind.i64.wrap (1 + y1.1)
 (spec_l1Cur_pick.f y1.2.1 y1.2.2.1 y1.2.2.2 12).bind fun y3 =>
 let y4 := IntKind.i64.wrap (1 + y3.1)
 (spec_l1Cur_one.f y3.2.1 y3.2.2.1 y3.2.2.2 3).bind fun y5 =>
 if y5.1 = true then
  (spec_l1Cur_pick.f y5.2.1 y5.2.2.1 y5.2.2.2 12).bind fun y6 =>
  (catI (appMax 8) [y2, y4] [(IntKind.i64.wrap (1 + y6.1))]).bind fun y8 =>
  some (y8, y6.2.1, y6.2.2.1, y6.2.2.2)
 else
  some ([y2, y4], y5.2.1, y5.2.2.1, y5.2.2.2) := by kernel_rfl
noncomputable def spec_l1In.g : Gam := []
theorem spec_l1In.gok : GOkI Tryz.prog I spec_l1In.g := GOkI.nil _ _
noncomputable def spec_l1In.i : FI := ⟨Tryz.f92, body Tryz.f92, (.seq .nil (.seq .nil .nil)), [], [], [.res (.tmp 6) (.v .bool)]⟩
noncomputable def spec_l1In.sp : CSpec := mkSpec spec_l1In.g T spec_l1In.i
theorem spec_l1In.ok : SpecOk Tryz.prog I 92 spec_l1In.sp := mkSpec_ok hmix hI spec_l1In.gok tok spec_l1In.i Tryz.func92 (by kernel_rfl) (by kernel_rfl) (by kernel_rfl) (by kernel_rfl)
noncomputable def spec_l1In.f (x0 : Int) (x1 : Int) (x2 : Int) : Option (Bool) := run spec_l1In.g T spec_l1In.i [.v (.int .i64) x0, .v (.int .i64) x1, .v (.int .i64) x2]
theorem spec_l1In.f.eq (x0 : Int) (x1 : Int) (x2 : Int) : spec_l1In.f x0 x1 x2 =
 if (decide (x0 ≥ x1)) = true then
  some (if true = true then (decide (x0 ≤ x2)) else false)
 else
  some false := by kernel_rfl
noncomputable def spec_pzPeople.g : Gam := [(92, spec_l1In.sp)]
theorem spec_pzPeople.gok : GOkI Tryz.prog I spec_pzPeople.g := (GOkI.nil _ _).cons spec_l1In.ok
noncomputable def spec_pzPeople.i : FI := ⟨Tryz.f66, body Tryz.f66, (.seq .nil (.seq .nil .nil)), [], [], [.res (.tmp 2) (.v .bool)]⟩
noncomputable def spec_pzPeople.sp : CSpec := mkSpec spec_pzPeople.g T spec_pzPeople.i
theorem spec_pzPeople.ok : SpecOk Tryz.prog I 66 spec_pzPeople.sp := mkSpec_ok hmix hI spec_pzPeople.gok tok spec_pzPeople.i Tryz.func66 (by kernel_rfl) (by kernel_rfl) (by kernel_rfl) (by kernel_rfl)
noncomputable def spec_pzPeople.f (x0 : Int) : Option (Bool) := run spec_pzPeople.g T spec_pzPeople.i [.v (.int .i64) x0]
theorem spec_pzPeople.f.eq (x0 : Int) : spec_pzPeople.f x0 =
 (spec_l1In.f x0 2 3).bind fun y1 =>
 some y1 := by kernel_rfl
noncomputable def spec_l1All.g : Gam := [(92, spec_l1In.sp)]
theorem spec_l1All.gok : GOkI Tryz.prog I spec_l1All.g := (GOkI.nil _ _).cons spec_l1In.ok
noncomputable def spec_l1All.i : FI := ⟨Tryz.f133, body Tryz.f133, (.seq .nil (.seq (.seq .nil (.blk (.loop [1, 2, 9, 10, 11] [] (.seq .nil (.seq (.cond .nil .nil) (.seq (.blk (.seq .nil (.seq .nil (.cond (.seq .nil .nil) .nil)))) .nil)))))) (.seq .nil .nil))), [], [], [.res (.tmp 6) (.v .bool)]⟩
noncomputable def spec_l1All.sp : CSpec := mkSpec spec_l1All.g T spec_l1All.i
theorem spec_l1All.ok : SpecOk Tryz.prog I 133 spec_l1All.sp := mkSpec_ok hmix hI spec_l1All.gok tok spec_l1All.i Tryz.func133 (by kernel_rfl) (by kernel_rfl) (by kernel_rfl) (by kernel_rfl)
noncomputable def spec_l1All.f (x0 : List Int) (x1 : Int) (x2 : Int) : Option (Bool) := run spec_l1All.g T spec_l1All.i [.v (.slice (.int .i64)) x0, .v (.int .i64) x1, .v (.int .i64) x2]
noncomputable def spec_l1All.l0 (x1 : Int) (x2 : Int) (x9 : List Int) (x10 : Int) (x11 : Int) : Option (Bool) := runAt spec_l1All.g T spec_l1All.i [true, false, true, false] [(1, .val (.int .i64) x1), (2, .val (.int .i64) x2), (9, .val (.slice (.int .i64)) x9), (10, .val (.int .i64) x10), (11, .val (.int .i64) x11)] []
theorem spec_l1All.f.eq (x0 : List Int) (x1 : Int) (x2 : Int) : spec_l1All.f x0 x1 x2 =
 spec_l1All.l0 x1 x2 x0 (x0.length : Int) 0 := by kernel_rfl
theorem spec_l1All.l0.eq (x1 : Int) (x2 : Int) (x9 : List Int) (x10 : Int) (x11 : Int) : spec_l1All.l0 x1 x2 x9 x10 x11 =
 if (decide (x11 < x10)) = true then
  (rdI x9 x11).bind fun y2 =>
  (spec_l1In.f y2 x1 x2).bind fun y3 =>
  if (!y3) = true then
   some false
  else
   spec_l1All.l0 x1 x2 x9 x10 (IntKind.i64.wrap (x11 + 1))
 else
  some true := (runAt_loop _ _ _ _ _ _).trans (by kernel_rfl)
noncomputable def spec_pzHidden.g : Gam := [(66, spec_pzPeople.sp), (133, spec_l1All.sp)]
theorem spec_pzHidden.gok : GOkI Tryz.prog I spec_pzHidden.g := ((GOkI.nil _ _).cons spec_l1All.ok).cons spec_pzPeople.ok
noncomputable def spec_pzHidden.i : FI := ⟨Tryz.f110, body Tryz.f110, (.seq .nil (.seq .nil .nil)), [], [], [.res (.tmp 2) (.v .bool)]⟩
noncomputable def spec_pzHidden.sp : CSpec := mkSpec spec_pzHidden.g T spec_pzHidden.i
theorem spec_pzHidden.ok : SpecOk Tryz.prog I 110 spec_pzHidden.sp := mkSpec_ok hmix hI spec_pzHidden.gok tok spec_pzHidden.i Tryz.func110 (by kernel_rfl) (by kernel_rfl) (by kernel_rfl) (by kernel_rfl)
noncomputable def spec_pzHidden.f (x0 : List Int) : Option (Bool) := run spec_pzHidden.g T spec_pzHidden.i [.v (.slice (.int .i64)) x0]
theorem spec_pzHidden.f.eq (x0 : List Int) : spec_pzHidden.f x0 =
 (spec_pzPeople.f (x0.length : Int)).bind fun y2 =>
 if y2 = true then
  (spec_l1All.f x0 1 12).bind fun y3 =>
  some (if true = true then y3 else false)
 else
  some false := by kernel_rfl
noncomputable def spec_pzNext.g : Gam := []
theorem spec_pzNext.gok : GOkI Tryz.prog I spec_pzNext.g := GOkI.nil _ _
noncomputable def spec_pzNext.i : FI := ⟨Tryz.f111, body Tryz.f111, (.seq .nil (.seq .nil .nil)), [], [], [.res (.tmp 2) (.v (.int .i64))]⟩
noncomputable def spec_pzNext.sp : CSpec := mkSpec spec_pzNext.g T spec_pzNext.i
theorem spec_pzNext.ok : SpecOk Tryz.prog I 111 spec_pzNext.sp := mkSpec_ok hmix hI spec_pzNext.gok tok spec_pzNext.i Tryz.func111 (by kernel_rfl) (by kernel_rfl) (by kernel_rfl) (by kernel_rfl)
noncomputable def spec_pzNext.f (x0 : Int) : Option (Int) := run spec_pzNext.g T spec_pzNext.i [.v (.int .i64) x0]
theorem spec_pzNext.f.eq (x0 : Int) : spec_pzNext.f x0 =
 some ((IntKind.i64.wrap ((IntKind.i64.wrap (299 * x0)) + 811)).tmod 10007) := by kernel_rfl
noncomputable def spec_agSum.g : Gam := []
theorem spec_agSum.gok : GOkI Tryz.prog I spec_agSum.g := GOkI.nil _ _
noncomputable def spec_agSum.i : FI := ⟨Tryz.f114, body Tryz.f114, (.seq .nil (.seq .nil (.seq (.seq .nil (.blk (.loop [3, 6, 7, 8] [] (.seq .nil (.seq (.cond .nil .nil) (.seq (.blk (.seq .nil .nil)) .nil)))))) (.seq .nil .nil)))), [], [], [.res (.tmp 2) (.v (.int .i64))]⟩
noncomputable def spec_agSum.sp : CSpec := mkSpec spec_agSum.g T spec_agSum.i
theorem spec_agSum.ok : SpecOk Tryz.prog I 114 spec_agSum.sp := mkSpec_ok hmix hI spec_agSum.gok tok spec_agSum.i Tryz.func114 (by kernel_rfl) (by kernel_rfl) (by kernel_rfl) (by kernel_rfl)
noncomputable def spec_agSum.f (x0 : List Int) : Option (Int) := run spec_agSum.g T spec_agSum.i [.v (.slice (.int .i64)) x0]
noncomputable def spec_agSum.l0 (x3 : Int) (x6 : List Int) (x7 : Int) (x8 : Int) : Option (Int) := runAt spec_agSum.g T spec_agSum.i [true, true, false, true, false] [(3, .val (.int .i64) x3), (6, .val (.slice (.int .i64)) x6), (7, .val (.int .i64) x7), (8, .val (.int .i64) x8)] []
theorem spec_agSum.f.eq (x0 : List Int) : spec_agSum.f x0 =
 spec_agSum.l0 0 x0 (x0.length : Int) 0 := by kernel_rfl
theorem spec_agSum.l0.eq (x3 : Int) (x6 : List Int) (x7 : Int) (x8 : Int) : spec_agSum.l0 x3 x6 x7 x8 =
 if (decide (x8 < x7)) = true then
  (rdI x6 x8).bind fun y2 =>
  spec_agSum.l0 (IntKind.i64.wrap (x3 + y2)) x6 x7 (IntKind.i64.wrap (x8 + 1))
 else
  some x3 := (runAt_loop _ _ _ _ _ _).trans (by kernel_rfl)
noncomputable def spec_kiPrime.g : Gam := []
theorem spec_kiPrime.gok : GOkI Tryz.prog I spec_kiPrime.g := GOkI.nil _ _
noncomputable def spec_kiPrime.i : FI := ⟨Tryz.f161, body Tryz.f161, (.seq .nil (.seq (.seq .nil (.blk (.loop [0, 3] [] (.seq (.seq .nil (.cond .nil .nil)) (.seq (.blk (.seq .nil (.cond (.seq .nil .nil) .nil))) .nil))))) (.seq .nil .nil))), [], [], [.res (.tmp 2) (.v .bool)]⟩
noncomputable def spec_kiPrime.sp : CSpec := mkSpec spec_kiPrime.g T spec_kiPrime.i
theorem spec_kiPrime.ok : SpecOk Tryz.prog I 161 spec_kiPrime.sp := mkSpec_ok hmix hI spec_kiPrime.gok tok spec_kiPrime.i Tryz.func161 (by kernel_rfl) (by kernel_rfl) (by kernel_rfl) (by kernel_rfl)
noncomputable def spec_kiPrime.f (x0 : Int) : Option (Bool) := run spec_kiPrime.g T spec_kiPrime.i [.v (.int .i64) x0]
noncomputable def spec_kiPrime.l0 (x0 : Int) (x3 : Int) : Option (Bool) := runAt spec_kiPrime.g T spec_kiPrime.i [true, false, true, false] [(0, .val (.int .i64) x0), (3, .val (.int .i64) x3)] []
theorem spec_kiPrime.f.eq (x0 : Int) : spec_kiPrime.f x0 =
 spec_kiPrime.l0 x0 2 := by kernel_rfl
theorem spec_kiPrime.l0.eq (x0 : Int) (x3 : Int) : spec_kiPrime.l0 x0 x3 =
 if (decide ((IntKind.i64.wrap (x3 * x3)) ≤ x0)) = true then
  if x3 = 0 then
   none
  else
   if ((x0.tmod x3) == 0) = true then
    some false
   else
    spec_kiPrime.l0 x0 (IntKind.i64.wrap (x3 + 1))
 else
  some (decide (x0 > 1)) := (runAt_loop _ _ _ _ _ _).trans (by kernel_rfl)
noncomputable def spec_kiIs.g : Gam := [(161, spec_kiPrime.sp)]
theorem spec_kiIs.gok : GOkI Tryz.prog I spec_kiIs.g := (GOkI.nil _ _).cons spec_kiPrime.ok
noncomputable def spec_kiIs.i : FI := ⟨Tryz.f153, body Tryz.f153, (.seq .nil (.seq (.seq .nil (.blk (.seq .nil (.cond (.seq .nil .nil) (.seq .nil (.cond (.seq .nil (.seq (.seq .nil (.blk (.loop [0, 5, 6] [] (.seq (.seq .nil (.cond .nil .nil)) (.seq (.blk (.seq .nil (.cond (.seq .nil .nil) .nil))) .nil))))) (.seq .nil .nil))) (.seq .nil (.cond (.seq .nil .nil) .nil)))))))) (.seq .nil (.seq (.seq .nil (.blk (.loop [0, 1, 7, 8] [] (.seq (.seq .nil (.cond .nil .nil)) (.seq (.blk (.seq (.seq .nil (.blk (.seq .nil (.cond .nil (.seq .nil (.cond .nil .nil)))))) (.seq .nil (.cond (.seq .nil .nil) .nil)))) .nil))))) (.seq .nil .nil))))), [], [], [.res (.tmp 4) (.v .bool)]⟩
noncomputable def spec_kiIs.sp : CSpec := mkSpec spec_kiIs.g T spec_kiIs.i
theorem spec_kiIs.ok : SpecOk Tryz.prog I 153 spec_kiIs.sp := mkSpec_ok hmix hI spec_kiIs.gok tok spec_kiIs.i Tryz.func153 (by kernel_rfl) (by kernel_rfl) (by kernel_rfl) (by kernel_rfl)
noncomputable def spec_kiIs.f (x0 : Int) (x1 : List UInt8) : Option (Bool) := run spec_kiIs.g T spec_kiIs.i [.v (.int .i64) x0, .v .str x1]
noncomputable def spec_kiIs.l0 (x0 : Int) (x5 : Int) (x6 : Int) : Option (Bool) := runAt spec_kiIs.g T spec_kiIs.i [true, false, true, false, true, true, true, false, true, false, true, false] [(0, .val (.int .i64) x0), (5, .val (.int .i64) x5), (6, .val (.int .i64) x6)] []
noncomputable def spec_kiIs.l1 (x0 : Int) (x1 : List UInt8) (x7 : Int) (x8 : Int) : Option (Bool) := runAt spec_kiIs.g T spec_kiIs.i [true, true, true, false, true, false] [(0, .val (.int .i64) x0), (1, .val .str x1), (7, .val (.int .i64) x7), (8, .val (.int .i64) x8)] []
theorem spec_kiIs.f.eq (x0 : Int) (x1 : List UInt8) : spec_kiIs.f x0 x1 =
 if (x1 == [112]) = true then
  (spec_kiPrime.f x0).bind fun y2 =>
  some y2
 else
  if (x1 == [100]) = true then
   spec_kiIs.l0 x0 (x0.tmod 10) x0
  else
   if (x1 == [114]) = true then
    if (decide (x0 ≥ 10)) = true then
     some (if true = true then (x0.tmod 10) == 0 else false)
    else
     some false
   else
    spec_kiIs.l1 x0 x1 0 0 := by kernel_rfl
theorem spec_kiIs.l0.eq (x0 : Int) (x5 : Int) (x6 : Int) : spec_kiIs.l0 x0 x5 x6 =
 if (decide (x6 > 0)) = true then
  if ((x6.tmod 10) != x5) = true then
   some false
  else
   spec_kiIs.l0 x0 x5 (IntKind.i64.wrap (x6.tdiv 10))
 else
  some (decide (x0 > 10)) := (runAt_loop _ _ _ _ _ _).trans (by kernel_rfl)
theorem spec_kiIs.l1.eq (x0 : Int) (x1 : List UInt8) (x7 : Int) (x8 : Int) : spec_kiIs.l1 x0 x1 x7 x8 =
 if (decide (x7 ≤ x0)) = true then
  if (x1 == [115]) = true then
   let y3 := IntKind.i64.wrap (x8 * x8)
   if (y3 == x0) = true then
    some true
   else
    spec_kiIs.l1 x0 x1 y3 (IntKind.i64.wrap (x8 + 1))
  else
   if (x1 == [99]) = true then
    let y7 := IntKind.i64.wrap ((IntKind.i64.wrap (x8 * x8)) * x8)
    if (y7 == x0) = true then
     some true
    else
     spec_kiIs.l1 x0 x1 y7 (IntKind.i64.wrap (x8 + 1))
   else
    let y9 := IntKind.i64.wrap (x7 + x8)
    if (y9 == x0) = true then
     some true
    else
     spec_kiIs.l1 x0 x1 y9 (IntKind.i64.wrap (x8 + 1))
 else
  some false := (runAt_loop _ _ _ _ _ _).trans (by kernel_rfl)
noncomputable def spec_kiCount.g : Gam := [(153, spec_kiIs.sp)]
theorem spec_kiCount.gok : GOkI Tryz.prog I spec_kiCount.g := (GOkI.nil _ _).cons spec_kiIs.ok
noncomputable def spec_kiCount.i : FI := ⟨Tryz.f134, body Tryz.f134, (.seq .nil (.seq .nil (.seq (.seq .nil (.blk (.loop [1, 2, 7, 10, 11, 12] [] (.seq .nil (.seq (.cond .nil .nil) (.seq (.blk (.seq .nil (.seq .nil (.cond .nil .nil)))) .nil)))))) (.seq .nil .nil)))), [], [], [.res (.tmp 6) (.v (.int .i64))]⟩
noncomputable def spec_kiCount.sp : CSpec := mkSpec spec_kiCount.g T spec_kiCount.i
theorem spec_kiCount.ok : SpecOk Tryz.prog I 134 spec_kiCount.sp := mkSpec_ok hmix hI spec_kiCount.gok tok spec_kiCount.i Tryz.func134 (by kernel_rfl) (by kernel_rfl) (by kernel_rfl) (by kernel_rfl)
noncomputable def spec_kiCount.f (x0 : List Int) (x1 : Int) (x2 : List UInt8) : Option (Int) := run spec_kiCount.g T spec_kiCount.i [.v (.slice (.int .i64)) x0, .v (.int .i64) x1, .v .str x2]
noncomputable def spec_kiCount.l0 (x1 : Int) (x2 : List UInt8) (x7 : Int) (x10 : List Int) (x11 : Int) (x12 : Int) : Option (Int) := runAt spec_kiCount.g T spec_kiCount.i [true, true, false, true, false] [(1, .val (.int .i64) x1), (2, .val .str x2), (7, .val (.int .i64) x7), (10, .val (.slice (.int .i64)) x10), (11, .val (.int .i64) x11), (12, .val (.int .i64) x12)] []
theorem spec_kiCount.f.eq (x0 : List Int) (x1 : Int) (x2 : List UInt8) : spec_kiCount.f x0 x1 x2 =
 spec_kiCount.l0 x1 x2 0 x0 (x0.length : Int) 0 := by kernel_rfl
theorem spec_kiCount.l0.eq (x1 : Int) (x2 : List UInt8) (x7 : Int) (x10 : List Int) (x11 : Int) (x12 : Int) : spec_kiCount.l0 x1 x2 x7 x10 x11 x12 =
 if (decide (x12 < x11)) = true then
  (rdI x10 x12).bind fun y2 =>
  (spec_kiIs.f (IntKind.i64.wrap (y2 + x1)) x2).bind fun y4 =>
  if y4 = true then
   spec_kiCount.l0 x1 x2 (IntKind.i64.wrap (x7 + 1)) x10 x11 (IntKind.i64.wrap (x12 + 1))
  else
   spec_kiCount.l0 x1 x2 x7 x10 x11 (IntKind.i64.wrap (x12 + 1))
 else
  some x7 := (runAt_loop _ _ _ _ _ _).trans (by kernel_rfl)
noncomputable def spec_pzValue.g : Gam := [(114, spec_agSum.sp), (134, spec_kiCount.sp)]
theorem spec_pzValue.gok : GOkI Tryz.prog I spec_pzValue.g := ((GOkI.nil _ _).cons spec_kiCount.ok).cons spec_agSum.ok
noncomputable def spec_pzValue.i : FI := ⟨Tryz.f115, body Tryz.f115, (.seq .nil (.seq .nil (.seq (.seq .nil (.blk (.seq .nil (.cond .nil (.seq .nil (.cond .nil (.seq .nil (.cond (.seq .nil (.seq .nil (.blk (.loop [7, 37, 38, 39] [] (.seq .nil (.seq (.cond .nil .nil) (.seq (.blk (.seq .nil .nil)) .nil))))))) (.seq .nil (.cond (.seq .nil (.cond .nil .nil)) (.seq .nil (.cond .nil (.seq .nil (.cond .nil .nil)))))))))))))) (.seq .nil .nil)))), [], [], [.res (.tmp 6) (.v (.int .i64))]⟩
noncomputable def spec_pzValue.sp : CSpec := mkSpec spec_pzValue.g T spec_pzValue.i
theorem spec_pzValue.ok : SpecOk Tryz.prog I 115 spec_pzValue.sp := mkSpec_ok hmix hI spec_pzValue.gok tok spec_pzValue.i Tryz.func115 (by kernel_rfl) (by kernel_rfl) (by kernel_rfl) (by kernel_rfl)
noncomputable def spec_pzValue.f (x0 : Int) (x1 : Int) (x2 : List Int) : Option (Int) := run spec_pzValue.g T spec_pzValue.i [.v (.int .i64) x0, .v (.int .i64) x1, .v (.slice (.int .i64)) x2]
noncomputable def spec_pzValue.l0 (x7 : Int) (x37 : List Int) (x38 : Int) (x39 : Int) : Option (Int) := runAt spec_pzValue.g T spec_pzValue.i [true, true, false, true, false, true, true, true, true, true, false, true, true, false] [(7, .val (.int .i64) x7), (37, .val (.slice (.int .i64)) x37), (38, .val (.int .i64) x38), (39, .val (.int .i64) x39)] []
theorem spec_pzValue.f.eq (x0 : Int) (x1 : Int) (x2 : List Int) : spec_pzValue.f x0 x1 x2 =
 if (x0 == 0) = true then
  (spec_agSum.f x2).bind fun y1 =>
  some y1
 else
  if (x0 == 1) = true then
   (rdI x2 x1).bind fun y2 =>
   some y2
  else
   if (x0 == 2) = true then
    spec_pzValue.l0 1 x2 (x2.length : Int) 0
   else
    if (x0 == 3) = true then
     (rdI x2 x1).bind fun y5 =>
     if (x2.length : Int) = 0 then
      none
     else
      (rdI x2 ((IntKind.i64.wrap (x1 + 1)).tmod (x2.length : Int))).bind fun y9 =>
      if (decide (y5 > y9)) = true then
       some 1
      else
       some 0
    else
     if (x0 == 4) = true then
      (spec_kiCount.f x2 0 [112]).bind fun y11 =>
      some y11
     else
      (rdI x2 x1).bind fun y12 =>
      if (x2.length : Int) = 0 then
       none
      else
       (rdI x2 ((IntKind.i64.wrap (x1 + 1)).tmod (x2.length : Int))).bind fun y16 =>
       if y16 = 0 then
        none
       else
        if ((y12.tmod y16) == 0) = true then
         some 1
        else
         some 0 := by kernel_rfl
theorem spec_pzValue.l0.eq (x7 : Int) (x37 : List Int) (x38 : Int) (x39 : Int) : spec_pzValue.l0 x7 x37 x38 x39 =
 if (decide (x39 < x38)) = true then
  (rdI x37 x39).bind fun y2 =>
  spec_pzValue.l0 (IntKind.i64.wrap (x7 * y2)) x37 x38 (IntKind.i64.wrap (x39 + 1))
 else
  some x7 := (runAt_loop _ _ _ _ _ _).trans (by kernel_rfl)
noncomputable def spec_pzOf.g : Gam := [(115, spec_pzValue.sp)]
theorem spec_pzOf.gok : GOkI Tryz.prog I spec_pzOf.g := (GOkI.nil _ _).cons spec_pzValue.ok
noncomputable def spec_pzOf.i : FI := ⟨Tryz.f112, body Tryz.f112, (.seq .nil (.seq .nil (.seq (.seq .nil (.blk (.seq (.seq .nil (.cond .nil (.seq .nil (.cond .nil .nil)))) (.cond .nil .nil)))) (.seq .nil .nil)))), [], [], [.res (.cell 6 46) (.v (.pair (.int .i64) (.pair (.int .i64) (.int .i64))))]⟩
noncomputable def spec_pzOf.sp : CSpec := mkSpec spec_pzOf.g T spec_pzOf.i
theorem spec_pzOf.ok : SpecOk Tryz.prog I 112 spec_pzOf.sp := mkSpec_ok hmix hI spec_pzOf.gok tok spec_pzOf.i Tryz.func112 (by kernel_rfl) (by kernel_rfl) (by kernel_rfl) (by kernel_rfl)
noncomputable def spec_pzOf.f (x0 : Int) (x1 : Int) (x2 : List Int) : Option (Int × Int × Int) := run spec_pzOf.g T spec_pzOf.i [.v (.int .i64) x0, .v (.int .i64) x1, .v (.slice (.int .i64)) x2]
theorem spec_pzOf.f.eq (x0 : Int) (x1 : Int) (x2 : List Int) : spec_pzOf.f x0 x1 x2 =
 if (x0 == 1) = true then
  if (x0 == 1) = true then
   if (x2.length : Int) = 0 then
    none
   else
    let y2 := x1.tmod (x2.length : Int)
    (spec_pzValue.f x0 y2 x2).bind fun y3 =>
    some (x0, y2, y3)
  else
   (spec_pzValue.f x0 0 x2).bind fun y4 =>
   some (x0, 0, y4)
 else
  if (x0 == 3) = true then
   if (x0 == 3) = true then
    if (x2.length : Int) = 0 then
     none
    else
     let y6 := x1.tmod (x2.length : Int)
     (spec_pzValue.f x0 y6 x2).bind fun y7 =>
     some (x0, y6, y7)
   else
    (spec_pzValue.f x0 0 x2).bind fun y8 =>
    some (x0, 0, y8)
  else
   if (x0 == 5) = true then
    if (x2.length : Int) = 0 then
     none
    else
     let y10 := x1.tmod (x2.length : Int)
     (spec_pzValue.f x0 y10 x2).bind fun y11 =>
     some (x0, y10, y11)
   else
    (spec_pzValue.f x0 0 x2).bind fun y12 =>
    some (x0, 0, y12) := by kernel_rfl
noncomputable def spec_MakePuzzle.g : Gam := [(110, spec_pzHidden.sp), (111, spec_pzNext.sp), (112, spec_pzOf.sp), (92, spec_l1In.sp)]
theorem spec_MakePuzzle.gok : GOkI Tryz.prog I spec_MakePuzzle.g := ((((GOkI.nil _ _).cons spec_l1In.ok).cons spec_pzOf.ok).cons spec_pzNext.ok).cons spec_pzHidden.ok
noncomputable def spec_MakePuzzle.i : FI := ⟨Tryz.f85, body Tryz.f85, (.seq .nil (.seq (.cut [0, 1, 2, 6, 23] [6] .nil (.cond (.seq .nil .nil) .nil)) (.seq .nil (.seq .nil (.seq (.blk (.loop [0, 1, 6, 8, 9] [6, 8] (.seq (.seq .nil (.cond .nil .nil)) (.seq (.blk (.seq .nil (.seq .nil (.seq .nil .nil)))) .nil)))) (.seq .nil .nil)))))), [3000024, 3000027, 5000048], [], [.res (.cell 6 26) (.pz .i64 46 (.pair (.int .i64) (.pair (.int .i64) (.int .i64)))), .res (.tmp 7) (.v .bool)]⟩
noncomputable def spec_MakePuzzle.sp : CSpec := mkSpec spec_MakePuzzle.g T spec_MakePuzzle.i
theorem spec_MakePuzzle.ok : SpecOk Tryz.prog I 85 spec_MakePuzzle.sp := mkSpec_ok hmix hI spec_MakePuzzle.gok tok spec_MakePuzzle.i Tryz.func85 (by kernel_rfl) (by kernel_rfl) (by kernel_rfl) (by kernel_rfl)
noncomputable def spec_MakePuzzle.f (x0 : List Int) (x1 : Int) (x2 : Int) : Option ((Int × (List (Int × Int × Int))) × Bool) := run spec_MakePuzzle.g T spec_MakePuzzle.i [.v (.slice (.int .i64)) x0, .v (.int .i64) x1, .v (.int .i64) x2]
noncomputable def spec_MakePuzzle.j0 (x0 : List Int) (x1 : Int) (x2 : Int) (x23 : Bool) (xb6_0 : Int) (xb6_1 : List (Int × Int × Int)) : Option ((Int × (List (Int × Int × Int))) × Bool) := runJ spec_MakePuzzle.g T spec_MakePuzzle.i [true, false, true] [(0, .val (.slice (.int .i64)) x0), (1, .val (.int .i64) x1), (2, .val (.int .i64) x2), (6, .ptr 6 0), (23, .val .bool x23)] [(6, [⟨(.int .i64), xb6_0⟩, ⟨(.slice (.pair (.int .i64) (.pair (.int .i64) (.int .i64)))), xb6_1⟩])]
noncomputable def spec_MakePuzzle.l0 (x0 : List Int) (x1 : Int) (x9 : Int) (xb6_0 : Int) (xb6_1 : List (Int × Int × Int)) (xb8_0 : Int) (xb8_1 : List (Int × Int × Int)) : Option ((Int × (List (Int × Int × Int))) × Bool) := runAt spec_MakePuzzle.g T spec_MakePuzzle.i [true, true, true, true, false, false] [(0, .val (.slice (.int .i64)) x0), (1, .val (.int .i64) x1), (6, .ptr 6 0), (8, .ptr 8 0), (9, .val (.int .i64) x9)] [(6, [⟨(.int .i64), xb6_0⟩, ⟨(.slice (.pair (.int .i64) (.pair (.int .i64) (.int .i64)))), xb6_1⟩]), (8, [⟨(.int .i64), xb8_0⟩, ownV 46 (.pair (.int .i64) (.pair (.int .i64) (.int .i64))) xb8_1])]
theorem spec_MakePuzzle.f.eq (x0 : List Int) (x1 : Int) (x2 : Int) : spec_MakePuzzle.f x0 x1 x2 =
 (spec_pzHidden.f x0).bind fun y1 =>
 if (!y1) = true then
  spec_MakePuzzle.j0 x0 x1 x2 true 0 []
 else
  (spec_l1In.f x1 0 6).bind fun y8 =>
  if (if false = true then true else !y8) = true then
   spec_MakePuzzle.j0 x0 x1 x2 true 0 []
  else
   (spec_l1In.f x2 0 9999).bind fun y10 =>
   spec_MakePuzzle.j0 x0 x1 x2 (if false = true then true else !y10) 0 [] := by kernel_rfl
theorem spec_MakePuzzle.j0.eq (x0 : List Int) (x1 : Int) (x2 : Int) (x23 : Bool) (xb6_0 : Int) (xb6_1 : List (Int × Int × Int)) : spec_MakePuzzle.j0 x0 x1 x2 x23 xb6_0 xb6_1 =
 if x23 = true then
  some ((0, []), false)
 else
  spec_MakePuzzle.l0 x0 x1 x2 xb6_0 xb6_1 (x0.length : Int) [] := (runJ_eq _ _ _ _ _ _).trans (by kernel_rfl)
theorem spec_MakePuzzle.l0.eq (x0 : List Int) (x1 : Int) (x9 : Int) (xb6_0 : Int) (xb6_1 : List (Int × Int × Int)) (xb8_0 : Int) (xb8_1 : List (Int × Int × Int)) : spec_MakePuzzle.l0 x0 x1 x9 xb6_0 xb6_1 xb8_0 xb8_1 =
 if (decide (x1 > 0)) = true then
  (spec_pzNext.f x9).bind fun y2 =>
  (spec_pzNext.f y2).bind fun y4 =>
  (spec_pzOf.f (y2.tmod 6) y4 x0).bind fun y5 =>
  (catI (appMax 24) xb8_1 [y5]).bind fun y6 =>
  spec_MakePuzzle.l0 x0 (IntKind.i64.wrap (x1 - 1)) y4 xb6_0 xb6_1 xb8_0 y6
 else
  some ((xb8_0, xb8_1), true) := (runAt_loop _ _ _ _ _ _).trans (by kernel_rfl)
noncomputable def spec_l1Cur_surePuzzle.g : Gam := [(86, spec_l1Cur_hidden.sp), (87, spec_l1Cur_pick.sp), (85, spec_MakePuzzle.sp)]
theorem spec_l1Cur_surePuzzle.gok : GOkI Tryz.prog I spec_l1Cur_surePuzzle.g := (((GOkI.nil _ _).cons spec_MakePuzzle.ok).cons spec_l1Cur_pick.ok).cons spec_l1Cur_hidden.ok
noncomputable def spec_l1Cur_surePuzzle.i : FI := ⟨Tryz.f61, body Tryz.f61, (.seq .nil (.seq .nil (.seq .nil .nil))), [5000017, 5000019], [1000000], [.res (.cell 4 26) (.pz .i64 46 (.pair (.int .i64) (.pair (.int .i64) (.int .i64)))), .box 1000000 0 (.v (.slice (.int .u8))), .box 1000000 1 (.v (.int .i64)), .box 1000000 2 (.v (.int .u64))]⟩
noncomputable def spec_l1Cur_surePuzzle.sp : CSpec := mkSpec spec_l1Cur_surePuzzle.g T spec_l1Cur_surePuzzle.i
theorem spec_l1Cur_surePuzzle.ok : SpecOk Tryz.prog I 61 spec_l1Cur_surePuzzle.sp := mkSpec_ok hmix hI spec_l1Cur_surePuzzle.gok tok spec_l1Cur_surePuzzle.i Tryz.func61 (by kernel_rfl) (by kernel_rfl) (by kernel_rfl) (by kernel_rfl)
noncomputable def spec_l1Cur_surePuzzle.f (x0_0 : List Int) (x0_1 : Int) (x0_2 : Int) (x1 : Int) : Option ((Int × (List (Int × Int × Int))) × (List Int) × Int × Int) := run spec_l1Cur_surePuzzle.g T spec_l1Cur_surePuzzle.i [.bx [⟨(.slice (.int .u8)), x0_0⟩, ⟨(.int .i64), x0_1⟩, ⟨(.int .u64), x0_2⟩], .v (.int .i64) x1]
theorem spec_l1Cur_surePuzzle.f.eq (x0_0 : List Int) (x0_1 : Int) (x0_2 : Int) (x1 : Int) : spec_l1Cur_surePuzzle.f x0_0 x0_1 x0_2 x1 =
 (spec_l1Cur_hidden.f x0_0 x0_1 x0_2).bind fun y1 =>
 (spec_l1Cur_pick.f y1.2.1 y1.2.2.1 y1.2.2.2 (IntKind.i64.wrap (x1 + 1))).bind fun y3 =>
 (spec_l1Cur_pick.f y3.2.1 y3.2.2.1 y3.2.2.2 10000).bind fun y4 =>
 (spec_MakePuzzle.f y1.1 y3.1 y4.1).bind fun y5 =>
 some ((y5.1.1, y5.1.2), y4.2.1, y4.2.2.1, y4.2.2.2) := by kernel_rfl
noncomputable def spec_l1Cur_surePuzzle_w.g : Gam := [(86, spec_l1Cur_hidden.sp), (87, spec_l1Cur_pick.sp), (85, spec_MakePuzzle.sp)]
theorem spec_l1Cur_surePuzzle_w.gok : GOkI Tryz.prog I spec_l1Cur_surePuzzle_w.g := (((GOkI.nil _ _).cons spec_MakePuzzle.ok).cons spec_l1Cur_pick.ok).cons spec_l1Cur_hidden.ok
noncomputable def spec_l1Cur_surePuzzle_w.i : FI := ⟨Tryz.f61, body Tryz.f61, (.seq .nil (.seq .nil (.seq .nil .nil))), [], [1000000], [.res (.cell 4 26) (.v (.pair (.int .i64) (.slice (.pair (.int .i64) (.pair (.int .i64) (.int .i64)))))), .box 1000000 0 (.v (.slice (.int .u8))), .box 1000000 1 (.v (.int .i64)), .box 1000000 2 (.v (.int .u64))]⟩
noncomputable def spec_l1Cur_surePuzzle_w.sp : CSpec := mkSpec spec_l1Cur_surePuzzle_w.g T spec_l1Cur_surePuzzle_w.i
theorem spec_l1Cur_surePuzzle_w.ok : SpecOk Tryz.prog I 61 spec_l1Cur_surePuzzle_w.sp := mkSpec_ok hmix hI spec_l1Cur_surePuzzle_w.gok tok spec_l1Cur_surePuzzle_w.i Tryz.func61 (by kernel_rfl) (by kernel_rfl) (by kernel_rfl) (by kernel_rfl)
noncomputable def spec_l1Cur_surePuzzle_w.f (x0_0 : List Int) (x0_1 : Int) (x0_2 : Int) (x1 : Int) : Option ((Int × (List (Int × Int × Int))) × (List Int) × Int × Int) := run spec_l1Cur_surePuzzle_w.g T spec_l1Cur_surePuzzle_w.i [.bx [⟨(.slice (.int .u8)), x0_0⟩, ⟨(.int .i64), x0_1⟩, ⟨(.int .u64), x0_2⟩], .v (.int .i64) x1]
theorem spec_l1Cur_surePuzzle_w.f.eq (x0_0 : List Int) (x0_1 : Int) (x0_2 : Int) (x1 : Int) : spec_l1Cur_surePuzzle_w.f x0_0 x0_1 x0_2 x1 =
 (spec_l1Cur_hidden.f x0_0 x0_1 x0_2).bind fun y1 =>
 (spec_l1Cur_pick.f y1.2.1 y1.2.2.1 y1.2.2.2 (IntKind.i64.wrap (x1 + 1))).bind fun y3 =>
 (spec_l1Cur_pick.f y3.2.1 y3.2.2.1 y3.2.2.2 10000).bind fun y4 =>
 (spec_MakePuzzle.f y1.1 y3.1 y4.1).bind fun y5 =>
 some ((y5.1.1, y5.1.2), y4.2.1, y4.2.2.1, y4.2.2.2) := by kernel_rfl
noncomputable def spec_l1Cur_among.g : Gam := [(87, spec_l1Cur_pick.sp)]
theorem spec_l1Cur_among.gok : GOkI Tryz.prog I spec_l1Cur_among.g := (GOkI.nil _ _).cons spec_l1Cur_pick.ok
noncomputable def spec_l1Cur_among.i : FI := ⟨Tryz.f90, body Tryz.f90, (.seq .nil (.seq .nil .nil)), [], [1000000], [.res (.tmp 4) (.v (.int .i64)), .box 1000000 0 (.v (.slice (.int .u8))), .box 1000000 1 (.v (.int .i64)), .box 1000000 2 (.v (.int .u64))]⟩
noncomputable def spec_l1Cur_among.sp : CSpec := mkSpec spec_l1Cur_among.g T spec_l1Cur_among.i
theorem spec_l1Cur_among.ok : SpecOk Tryz.prog I 90 spec_l1Cur_among.sp := mkSpec_ok hmix hI spec_l1Cur_among.gok tok spec_l1Cur_among.i Tryz.func90 (by kernel_rfl) (by kernel_rfl) (by kernel_rfl) (by kernel_rfl)
noncomputable def spec_l1Cur_among.f (x0_0 : List Int) (x0_1 : Int) (x0_2 : Int) (x1 : List Int) : Option (Int × (List Int) × Int × Int) := run spec_l1Cur_among.g T spec_l1Cur_among.i [.bx [⟨(.slice (.int .u8)), x0_0⟩, ⟨(.int .i64), x0_1⟩, ⟨(.int .u64), x0_2⟩], .v (.slice (.int .i64)) x1]
theorem spec_l1Cur_among.f.eq (x0_0 : List Int) (x0_1 : Int) (x0_2 : Int) (x1 : List Int) : spec_l1Cur_among.f x0_0 x0_1 x0_2 x1 =
 (spec_l1Cur_pick.f x0_0 x0_1 x0_2 (x1.length : Int)).bind fun y2 =>
 (rdI x1 y2.1).bind fun y3 =>
 some (y3, y2.2.1, y2.2.2.1, y2.2.2.2) := by kernel_rfl
noncomputable def spec_l1Cur_clue.g : Gam := [(87, spec_l1Cur_pick.sp), (62, spec_l1Cur_one.sp)]
theorem spec_l1Cur_clue.gok : GOkI Tryz.prog I spec_l1Cur_clue.g := ((GOkI.nil _ _).cons spec_l1Cur_one.ok).cons spec_l1Cur_pick.ok
noncomputable def spec_l1Cur_clue.i : FI := ⟨Tryz.f91, body Tryz.f91, (.seq .nil (.seq .nil (.cut [0, 2, 3] [2, 3, 1000000] (.seq .nil (.blk (.seq .nil (.cond .nil (.cut [0, 2, 3, 18, 24] [2, 3, 1000000] (.seq .nil (.cond .nil .nil)) (.cond (.seq .nil .nil) (.seq .nil (.cond .nil (.seq .nil (.cond (.seq .nil .nil) .nil)))))))))) (.seq (.seq .nil (.cond .nil .nil)) (.seq .nil .nil))))), [], [1000000], [.res (.cell 2 46) (.v (.pair (.int .i64) (.pair (.int .i64) (.int .i64)))), .box 1000000 0 (.v (.slice (.int .u8))), .box 1000000 1 (.v (.int .i64)), .box 1000000 2 (.v (.int .u64))]⟩
noncomputable def spec_l1Cur_clue.sp : CSpec := mkSpec spec_l1Cur_clue.g T spec_l1Cur_clue.i
theorem spec_l1Cur_clue.ok : SpecOk Tryz.prog I 91 spec_l1Cur_clue.sp := mkSpec_ok hmix hI spec_l1Cur_clue.gok tok spec_l1Cur_clue.i Tryz.func91 (by kernel_rfl) (by kernel_rfl) (by kernel_rfl) (by kernel_rfl)
noncomputable def spec_l1Cur_clue.f (x0_0 : List Int) (x0_1 : Int) (x0_2 : Int) : Option ((Int × Int × Int) × (List Int) × Int × Int) := run spec_l1Cur_clue.g T spec_l1Cur_clue.i [.bx [⟨(.slice (.int .u8)), x0_0⟩, ⟨(.int .i64), x0_1⟩, ⟨(.int .u64), x0_2⟩]]
noncomputable def spec_l1Cur_clue.j0 (xb2_0 : Int) (xb2_1 : Int) (xb2_2 : Int) (xb3_0 : Int) (xb3_1 : Int) (xb3_2 : Int) (x0_0 : List Int) (x0_1 : Int) (x0_2 : Int) : Option ((Int × Int × Int) × (List Int) × Int × Int) := runJ spec_l1Cur_clue.g T spec_l1Cur_clue.i [true, true, true] [(0, .ptr 1000000 0), (2, .ptr 2 0), (3, .ptr 3 0)] [(2, [⟨(.int .i64), xb2_0⟩, ⟨(.int .i64), xb2_1⟩, ⟨(.int .i64), xb2_2⟩]), (3, [⟨(.int .i64), xb3_0⟩, ⟨(.int .i64), xb3_1⟩, ⟨(.int .i64), xb3_2⟩]), (1000000, [⟨(.slice (.int .u8)), x0_0⟩, ⟨(.int .i64), x0_1⟩, ⟨(.int .u64), x0_2⟩])]
noncomputable def spec_l1Cur_clue.j1 (x18 : Int) (x24 : Bool) (xb2_0 : Int) (xb2_1 : Int) (xb2_2 : Int) (xb3_0 : Int) (xb3_1 : Int) (xb3_2 : Int) (x0_0 : List Int) (x0_1 : Int) (x0_2 : Int) : Option ((Int × Int × Int) × (List Int) × Int × Int) := runJ spec_l1Cur_clue.g T spec_l1Cur_clue.i [true, true, false, true, false, true, true, true] [(0, .ptr 1000000 0), (2, .ptr 2 0), (3, .ptr 3 0), (18, .val (.int .i64) x18), (24, .val .bool x24)] [(2, [⟨(.int .i64), xb2_0⟩, ⟨(.int .i64), xb2_1⟩, ⟨(.int .i64), xb2_2⟩]), (3, [⟨(.int .i64), xb3_0⟩, ⟨(.int .i64), xb3_1⟩, ⟨(.int .i64), xb3_2⟩]), (1000000, [⟨(.slice (.int .u8)), x0_0⟩, ⟨(.int .i64), x0_1⟩, ⟨(.int .u64), x0_2⟩])]
theorem spec_l1Cur_clue.f.eq (x0_0 : List Int) (x0_1 : Int) (x0_2 : Int) : spec_l1Cur_clue.f x0_0 x0_1 x0_2 =
 (spec_l1Cur_pick.f x0_0 x0_1 x0_2 7).bind fun y1 =>
 (spec_l1Cur_pick.f y1.2.1 y1.2.2.1 y1.2.2.2 9).bind fun y2 =>
 let y4 := IntKind.i64.wrap (y1.1 + (IntKind.i64.wrap (y2.1.tdiv 8)))
 (spec_l1Cur_pick.f y2.2.1 y2.2.2.1 y2.2.2.2 24).bind fun y5 =>
 (spec_l1Cur_pick.f y5.2.1 y5.2.2.1 y5.2.2.2 9).bind fun y6 =>
 let y8 := IntKind.i64.wrap (y5.1 - (IntKind.i64.wrap (y6.1.tdiv 8)))
 if (y4 == 1) = true then
  (spec_l1Cur_pick.f y6.2.1 y6.2.2.1 y6.2.2.2 4).bind fun y9 =>
  spec_l1Cur_clue.j0 0 0 0 y4 y9.1 y8 y9.2.1 y9.2.2.1 y9.2.2.2
 else
  if (y4 == 3) = true then
   spec_l1Cur_clue.j1 y4 (y4 == 3) 0 0 0 y4 0 y8 y6.2.1 y6.2.2.1 y6.2.2.2
  else
   spec_l1Cur_clue.j1 y4 (y4 == 5) 0 0 0 y4 0 y8 y6.2.1 y6.2.2.1 y6.2.2.2 := by kernel_rfl
theorem spec_l1Cur_clue.j0.eq (xb2_0 : Int) (xb2_1 : Int) (xb2_2 : Int) (xb3_0 : Int) (xb3_1 : Int) (xb3_2 : Int) (x0_0 : List Int) (x0_1 : Int) (x0_2 : Int) : spec_l1Cur_clue.j0 xb2_0 xb2_1 xb2_2 xb3_0 xb3_1 xb3_2 x0_0 x0_1 x0_2 =
 (spec_l1Cur_one.f x0_0 x0_1 x0_2 14).bind fun y1 =>
 if y1.1 = true then
  (spec_l1Cur_pick.f y1.2.1 y1.2.2.1 y1.2.2.2 3).bind fun y2 =>
  some ((xb3_0, (IntKind.i64.wrap (y2.1 - 1)), xb3_2), y2.2.1, y2.2.2.1, y2.2.2.2)
 else
  some ((xb3_0, xb3_1, xb3_2), y1.2.1, y1.2.2.1, y1.2.2.2) := (runJ_eq _ _ _ _ _ _).trans (by kernel_rfl)
theorem spec_l1Cur_clue.j1.eq (x18 : Int) (x24 : Bool) (xb2_0 : Int) (xb2_1 : Int) (xb2_2 : Int) (xb3_0 : Int) (xb3_1 : Int) (xb3_2 : Int) (x0_0 : List Int) (x0_1 : Int) (x0_2 : Int) : spec_l1Cur_clue.j1 x18 x24 xb2_0 xb2_1 xb2_2 xb3_0 xb3_1 xb3_2 x0_0 x0_1 x0_2 =
 if x24 = true then
  (spec_l1Cur_pick.f x0_0 x0_1 x0_2 4).bind fun y1 =>
  (spec_l1Cur_pick.f y1.2.1 y1.2.2.1 y1.2.2.2 3).bind fun y2 =>
  spec_l1Cur_clue.j0 xb2_0 xb2_1 xb2_2 xb3_0 y1.1 y2.1 y2.2.1 y2.2.2.1 y2.2.2.2
 else
  if (x18 == 4) = true then
   (spec_l1Cur_pick.f x0_0 x0_1 x0_2 4).bind fun y3 =>
   spec_l1Cur_clue.j0 xb2_0 xb2_1 xb2_2 xb3_0 xb3_1 y3.1 y3.2.1 y3.2.2.1 y3.2.2.2
  else
   if (x18 == 6) = true then
    (spec_l1Cur_pick.f x0_0 x0_1 x0_2 11).bind fun y4 =>
    (spec_l1Cur_pick.f y4.2.1 y4.2.2.1 y4.2.2.2 10).bind fun y5 =>
    spec_l1Cur_clue.j0 xb2_0 xb2_1 xb2_2 xb3_0 y4.1 (IntKind.i64.wrap (1 + y5.1)) y5.2.1 y5.2.2.1 y5.2.2.2
   else
    spec_l1Cur_clue.j0 xb2_0 xb2_1 xb2_2 xb3_0 xb3_1 xb3_2 x0_0 x0_1 x0_2 := (runJ_eq _ _ _ _ _ _).trans (by kernel_rfl)
noncomputable def spec_l1Cur_puzzle.g : Gam := [(61, spec_l1Cur_surePuzzle.sp), (87, spec_l1Cur_pick.sp), (90, spec_l1Cur_among.sp), (91, spec_l1Cur_clue.sp)]
theorem spec_l1Cur_puzzle.gok : GOkI Tryz.prog I spec_l1Cur_puzzle.g := ((((GOkI.nil _ _).cons spec_l1Cur_clue.ok).cons spec_l1Cur_among.ok).cons spec_l1Cur_pick.ok).cons spec_l1Cur_surePuzzle.ok
noncomputable def spec_l1Cur_puzzle.i : FI := ⟨Tryz.f65, body Tryz.f65, (.seq .nil (.seq .nil (.seq (.seq .nil (.blk (.seq .nil (.cond .nil (.cut [0, 2, 3, 7, 14] [2, 3, 1000000] (.seq .nil (.cond .nil .nil)) (.cond .nil (.seq .nil (.cond (.blk (.loop [0, 2, 3] [2, 3, 1000000] (.seq (.seq .nil (.cond .nil .nil)) (.blk .nil)))) .nil)))))))) (.seq .nil .nil)))), [4000027], [1000000], [.res (.cell 2 26) (.v (.pair (.int .i64) (.slice (.pair (.int .i64) (.pair (.int .i64) (.int .i64)))))), .box 1000000 0 (.v (.slice (.int .u8))), .box 1000000 1 (.v (.int .i64)), .box 1000000 2 (.v (.int .u64))]⟩
noncomputable def spec_l1Cur_puzzle.sp : CSpec := mkSpec spec_l1Cur_puzzle.g T spec_l1Cur_puzzle.i
theorem spec_l1Cur_puzzle.ok : SpecOk Tryz.prog I 65 spec_l1Cur_puzzle.sp := mkSpec_ok hmix hI spec_l1Cur_puzzle.gok tok spec_l1Cur_puzzle.i Tryz.func65 (by kernel_rfl) (by kernel_rfl) (by kernel_rfl) (by kernel_rfl)
noncomputable def spec_l1Cur_puzzle.f (x0_0 : List Int) (x0_1 : Int) (x0_2 : Int) : Option ((Int × (List (Int × Int × Int))) × (List Int) × Int × Int) := run spec_l1Cur_puzzle.g T spec_l1Cur_puzzle.i [.bx [⟨(.slice (.int .u8)), x0_0⟩, ⟨(.int .i64), x0_1⟩, ⟨(.int .u64), x0_2⟩]]
noncomputable def spec_l1Cur_puzzle.j0 (x7 : Int) (x14 : Bool) (xb2_0 : Int) (xb2_1 : List (Int × Int × Int)) (xb3_0 : Int) (xb3_1 : List (Int × Int × Int)) (x0_0 : List Int) (x0_1 : Int) (x0_2 : Int) : Option ((Int × (List (Int × Int × Int))) × (List Int) × Int × Int) := runJ spec_l1Cur_puzzle.g T spec_l1Cur_puzzle.i [true, true, false, true, false, true, true, true] [(0, .ptr 1000000 0), (2, .ptr 2 0), (3, .ptr 3 0), (7, .val (.int .i64) x7), (14, .val .bool x14)] [(2, [⟨(.int .i64), xb2_0⟩, ⟨(.slice (.pair (.int .i64) (.pair (.int .i64) (.int .i64)))), xb2_1⟩]), (3, [⟨(.int .i64), xb3_0⟩, ownV 46 (.pair (.int .i64) (.pair (.int .i64) (.int .i64))) xb3_1]), (1000000, [⟨(.slice (.int .u8)), x0_0⟩, ⟨(.int .i64), x0_1⟩, ⟨(.int .u64), x0_2⟩])]
noncomputable def spec_l1Cur_puzzle.l0 (xb2_0 : Int) (xb2_1 : List (Int × Int × Int)) (xb3_0 : Int) (xb3_1 : List (Int × Int × Int)) (x0_0 : List Int) (x0_1 : Int) (x0_2 : Int) : Option ((Int × (List (Int × Int × Int))) × (List Int) × Int × Int) := runAt spec_l1Cur_puzzle.g T spec_l1Cur_puzzle.i [true, true, false, true, false, true, true, true, true, true, false, false] [(0, .ptr 1000000 0), (2, .ptr 2 0), (3, .ptr 3 0)] [(2, [⟨(.int .i64), xb2_0⟩, ⟨(.slice (.pair (.int .i64) (.pair (.int .i64) (.int .i64)))), xb2_1⟩]), (3, [⟨(.int .i64), xb3_0⟩, ownV 46 (.pair (.int .i64) (.pair (.int .i64) (.int .i64))) xb3_1]), (1000000, [⟨(.slice (.int .u8)), x0_0⟩, ⟨(.int .i64), x0_1⟩, ⟨(.int .u64), x0_2⟩])]
theorem spec_l1Cur_puzzle.f.eq (x0_0 : List Int) (x0_1 : Int) (x0_2 : Int) : spec_l1Cur_puzzle.f x0_0 x0_1 x0_2 =
 (spec_l1Cur_surePuzzle.f x0_0 x0_1 x0_2 4).bind fun y1 =>
 (spec_l1Cur_pick.f y1.2.1 y1.2.2.1 y1.2.2.2 10).bind fun y2 =>
 if (y2.1 == 0) = true then
  (spec_l1Cur_among.f y2.2.1 y2.2.2.1 y2.2.2.2 [(-1), 0, 1, 2, 3, 4, 4611686018427387904]).bind fun y4 =>
  some ((y4.1, y1.1.2), y4.2.1, y4.2.2.1, y4.2.2.2)
 else
  if (y2.1 == 1) = true then
   spec_l1Cur_puzzle.j0 y2.1 (y2.1 == 1) 0 [] y1.1.1 y1.1.2 y2.2.1 y2.2.2.1 y2.2.2.2
  else
   spec_l1Cur_puzzle.j0 y2.1 (y2.1 == 2) 0 [] y1.1.1 y1.1.2 y2.2.1 y2.2.2.1 y2.2.2.2 := by kernel_rfl
theorem spec_l1Cur_puzzle.j0.eq (x7 : Int) (x14 : Bool) (xb2_0 : Int) (xb2_1 : List (Int × Int × Int)) (xb3_0 : Int) (xb3_1 : List (Int × Int × Int)) (x0_0 : List Int) (x0_1 : Int) (x0_2 : Int) : spec_l1Cur_puzzle.j0 x7 x14 xb2_0 xb2_1 xb3_0 xb3_1 x0_0 x0_1 x0_2 =
 if x14 = true then
  (spec_l1Cur_clue.f x0_0 x0_1 x0_2).bind fun y1 =>
  (catI (appMax 24) xb3_1 [y1.1]).bind fun y2 =>
  some ((xb3_0, y2), y1.2.1, y1.2.2.1, y1.2.2.2)
 else
  if (x7 == 3) = true then
   spec_l1Cur_puzzle.l0 xb2_0 xb2_1 xb3_0 xb3_1 x0_0 x0_1 x0_2
  else
   some ((xb3_0, xb3_1), x0_0, x0_1, x0_2) := (runJ_eq _ _ _ _ _ _).trans (by kernel_rfl)
theorem spec_l1Cur_puzzle.l0.eq (xb2_0 : Int) (xb2_1 : List (Int × Int × Int)) (xb3_0 : Int) (xb3_1 : List (Int × Int × Int)) (x0_0 : List Int) (x0_1 : Int) (x0_2 : Int) : spec_l1Cur_puzzle.l0 xb2_0 xb2_1 xb3_0 xb3_1 x0_0 x0_1 x0_2 =
 (spec_l1Cur_pick.f x0_0 x0_1 x0_2 2).bind fun y2 =>
 if (decide ((xb3_1.length : Int) < (IntKind.i64.wrap (6 + y2.1)))) = true then
  (catI (appMax 24) xb3_1 [(0, 0, 12)]).bind fun y5 =>
  spec_l1Cur_puzzle.l0 xb2_0 xb2_1 xb3_0 y5 y2.2.1 y2.2.2.1 y2.2.2.2
 else
  some ((xb3_0, xb3_1), y2.2.1, y2.2.2.1, y2.2.2.2) := (runAt_loop _ _ _ _ _ _).trans (by kernel_rfl)
noncomputable def spec_DrawIsPuzzle.g : Gam := [(65, spec_l1Cur_puzzle.sp)]
theorem spec_DrawIsPuzzle.gok : GOkI Tryz.prog I spec_DrawIsPuzzle.g := (GOkI.nil _ _).cons spec_l1Cur_puzzle.ok
noncomputable def spec_DrawIsPuzzle.i : FI := ⟨Tryz.f37, body Tryz.f37, (.seq .nil (.seq .nil (.seq .nil .nil))), [], [], [.res (.cell 2 26) (.v (.pair (.int .i64) (.slice (.pair (.int .i64) (.pair (.int .i64) (.int .i64))))))]⟩
noncomputable def spec_DrawIsPuzzle.sp : CSpec := mkSpec spec_DrawIsPuzzle.g T spec_DrawIsPuzzle.i
theorem spec_DrawIsPuzzle.ok : SpecOk Tryz.prog I 37 spec_DrawIsPuzzle.sp := mkSpec_ok hmix hI spec_DrawIsPuzzle.gok tok spec_DrawIsPuzzle.i Tryz.func37 (by kernel_rfl) (by kernel_rfl) (by kernel_rfl) (by kernel_rfl)
noncomputable def spec_DrawIsPuzzle.f (x0 : List Int) : Option (Int × (List (Int × Int × Int))) := run spec_DrawIsPuzzle.g T spec_DrawIsPuzzle.i [.v (.slice (.int .u8)) x0]
theorem spec_DrawIsPuzzle.f.eq (x0 : List Int) : spec_DrawIsPuzzle.f x0 =
 (spec_l1Cur_puzzle.f x0 0 0).bind fun y1 =>
 some (y1.1.1, y1.1.2) := by kernel_rfl
noncomputable def spec_DrawSolutions.g : Gam := [(37, spec_DrawIsPuzzle.sp)]
theorem spec_DrawSolutions.gok : GOkI Tryz.prog I spec_DrawSolutions.g := (GOkI.nil _ _).cons spec_DrawIsPuzzle.ok
noncomputable def spec_DrawSolutions.i : FI := ⟨Tryz.f5, body Tryz.f5, (.seq .nil (.seq .nil .nil)), [], [], [.res (.cell 2 26) (.v (.pair (.int .i64) (.slice (.pair (.int .i64) (.pair (.int .i64) (.int .i64))))))]⟩
noncomputable def spec_DrawSolutions.sp : CSpec := mkSpec spec_DrawSolutions.g T spec_DrawSolutions.i
theorem spec_DrawSolutions.ok : SpecOk Tryz.prog I 5 spec_DrawSolutions.sp := mkSpec_ok hmix hI spec_DrawSolutions.gok tok spec_DrawSolutions.i Tryz.func5 (by kernel_rfl) (by kernel_rfl) (by kernel_rfl) (by kernel_rfl)
noncomputable def spec_DrawSolutions.f (x0 : List Int) : Option (Int × (List (Int × Int × Int))) := run spec_DrawSolutions.g T spec_DrawSolutions.i [.v (.slice (.int .u8)) x0]
theorem spec_DrawSolutions.f.eq (x0 : List Int) : spec_DrawSolutions.f x0 =
 (spec_DrawIsPuzzle.f x0).bind fun y1 =>
 some (y1.1, y1.2) := by kernel_rfl
noncomputable def impl_between.g : Gam := []
theorem impl_between.gok : GOkI Tryz.prog I impl_between.g := GOkI.nil _ _
noncomputable def impl_between.i : FI := ⟨Tryz.f49, body Tryz.f49, (.seq .nil (.seq .nil .nil)), [], [], [.res (.tmp 6) (.v .bool)]⟩
noncomputable def impl_between.sp : CSpec := mkSpec impl_between.g T impl_between.i
theorem impl_between.ok : SpecOk Tryz.prog I 49 impl_between.sp := mkSpec_ok hmix hI impl_between.gok tok impl_between.i Tryz.func49 (by kernel_rfl) (by kernel_rfl) (by kernel_rfl) (by kernel_rfl)
noncomputable def impl_between.f (x0 : Int) (x1 : Int) (x2 : Int) : Option (Bool) := run impl_between.g T impl_between.i [.v (.int .i64) x0, .v (.int .i64) x1, .v (.int .i64) x2]
theorem impl_between.f.eq (x0 : Int) (x1 : Int) (x2 : Int) : impl_between.f x0 x1 x2 =
 if (decide (x0 ≥ x1)) = true then
  some (if true = true then (decide (x0 ≤ x2)) else false)
 else
  some false := by kernel_rfl
noncomputable def impl_IsClue.g : Gam := [(49, impl_between.sp)]
theorem impl_IsClue.gok : GOkI Tryz.prog I impl_IsClue.g := (GOkI.nil _ _).cons impl_between.ok
noncomputable def impl_IsClue.i : FI := ⟨Tryz.f52, body Tryz.f52, (.seq .nil (.seq (.cut [0, 3, 19] [3] .nil (.cond (.seq .nil .nil) .nil)) (.seq (.seq .nil (.blk (.seq .nil (.cond (.seq .nil .nil) (.cut [0, 3, 21, 29] [3] (.seq .nil (.cond .nil .nil)) (.cond (.seq .nil .nil) (.seq .nil (.cond (.seq .nil .nil) .nil)))))))) (.seq .nil .nil)))), [], [], [.res (.tmp 4) (.v .bool)]⟩
noncomputable def impl_IsClue.sp : CSpec := mkSpec impl_IsClue.g T impl_IsClue.i
theorem impl_IsClue.ok : SpecOk Tryz.prog I 52 impl_IsClue.sp := mkSpec_ok hmix hI impl_IsClue.gok tok impl_IsClue.i Tryz.func52 (by kernel_rfl) (by kernel_rfl) (by kernel_rfl) (by kernel_rfl)
noncomputable def impl_IsClue.f (x0 : Int) (x1 : Int × Int × Int) : Option (Bool) := run impl_IsClue.g T impl_IsClue.i [.v (.int .i64) x0, .v (.pair (.int .i64) (.pair (.int .i64) (.int .i64))) x1]
noncomputable def impl_IsClue.j0 (x0 : Int) (x19 : Bool) (xb3_0 : Int) (xb3_1 : Int) (xb3_2 : Int) : Option (Bool) := runJ impl_IsClue.g T impl_IsClue.i [true, false, true] [(0, .val (.int .i64) x0), (3, .ptr 3 0), (19, .val .bool x19)] [(3, [⟨(.int .i64), xb3_0⟩, ⟨(.int .i64), xb3_1⟩, ⟨(.int .i64), xb3_2⟩])]
noncomputable def impl_IsClue.j1 (x0 : Int) (x21 : Int) (x29 : Bool) (xb3_0 : Int) (xb3_1 : Int) (xb3_2 : Int) : Option (Bool) := runJ impl_IsClue.g T impl_IsClue.i [true, true, false, true, false, true, true, true] [(0, .val (.int .i64) x0), (3, .ptr 3 0), (21, .val (.int .i64) x21), (29, .val .bool x29)] [(3, [⟨(.int .i64), xb3_0⟩, ⟨(.int .i64), xb3_1⟩, ⟨(.int .i64), xb3_2⟩])]
theorem impl_IsClue.f.eq (x0 : Int) (x1 : Int × Int × Int) : impl_IsClue.f x0 x1 =
 (impl_between.f x0 2 3).bind fun y1 =>
 if (!y1) = true then
  impl_IsClue.j0 x0 true x1.1 x1.2.1 x1.2.2
 else
  (impl_between.f x1.1 0 6).bind fun y10 =>
  if (if false = true then true else !y10) = true then
   impl_IsClue.j0 x0 true x1.1 x1.2.1 x1.2.2
  else
   (impl_between.f x1.2.2 0 2000).bind fun y12 =>
   impl_IsClue.j0 x0 (if false = true then true else !y12) x1.1 x1.2.1 x1.2.2 := by kernel_rfl
theorem impl_IsClue.j0.eq (x0 : Int) (x19 : Bool) (xb3_0 : Int) (xb3_1 : Int) (xb3_2 : Int) : impl_IsClue.j0 x0 x19 xb3_0 xb3_1 xb3_2 =
 if x19 = true then
  some false
 else
  if (xb3_0 == 1) = true then
   (impl_between.f xb3_1 0 (IntKind.i64.wrap (x0 - 1))).bind fun y3 =>
   some y3
  else
   if (xb3_0 == 3) = true then
    impl_IsClue.j1 x0 xb3_0 (xb3_0 == 3) xb3_0 xb3_1 xb3_2
   else
    impl_IsClue.j1 x0 xb3_0 (xb3_0 == 5) xb3_0 xb3_1 xb3_2 := (runJ_eq _ _ _ _ _ _).trans (by kernel_rfl)
theorem impl_IsClue.j1.eq (x0 : Int) (x21 : Int) (x29 : Bool) (xb3_0 : Int) (xb3_1 : Int) (xb3_2 : Int) : impl_IsClue.j1 x0 x21 x29 xb3_0 xb3_1 xb3_2 =
 if x29 = true then
  (impl_between.f xb3_1 0 (IntKind.i64.wrap (x0 - 1))).bind fun y2 =>
  if y2 = true then
   some (if true = true then (decide (xb3_2 ≤ 1)) else false)
  else
   some false
 else
  if (x21 == 6) = true then
   (impl_between.f xb3_1 0 9).bind fun y5 =>
   if y5 = true then
    (impl_between.f xb3_2 2 9).bind fun y6 =>
    some (if true = true then y6 else false)
   else
    some false
  else
   some (xb3_1 == 0) := (runJ_eq _ _ _ _ _ _).trans (by kernel_rfl)
noncomputable def impl_IsPuzzle_1.g : Gam := [(52, impl_IsClue.sp)]
theorem impl_IsPuzzle_1.gok : GOkI Tryz.prog I impl_IsPuzzle_1.g := (GOkI.nil _ _).cons impl_IsClue.ok
noncomputable def impl_IsPuzzle_1.i : FI := ⟨Tryz.f51, body Tryz.f51, (.seq .nil (.seq .nil .nil)), [], [], [.res (.tmp 3) (.v .bool)]⟩
noncomputable def impl_IsPuzzle_1.sp : CSpec := mkSpec impl_IsPuzzle_1.g T impl_IsPuzzle_1.i
theorem impl_IsPuzzle_1.ok : SpecOk Tryz.prog I 51 impl_IsPuzzle_1.sp := mkSpec_ok hmix hI impl_IsPuzzle_1.gok tok impl_IsPuzzle_1.i Tryz.func51 (by kernel_rfl) (by kernel_rfl) (by kernel_rfl) (by kernel_rfl)
noncomputable def impl_IsPuzzle_1.f (x0 : Int × Int × Int) (x1 : Int × (List (Int × Int × Int))) : Option (Bool) := run impl_IsPuzzle_1.g T impl_IsPuzzle_1.i [.v (.pair (.int .i64) (.pair (.int .i64) (.int .i64))) x0, .cr (.pair (.int .i64) (.slice (.pair (.int .i64) (.pair (.int .i64) (.int .i64))))) x1]
theorem impl_IsPuzzle_1.f.eq (x0 : Int × Int × Int) (x1 : Int × (List (Int × Int × Int))) : impl_IsPuzzle_1.f x0 x1 =
 (impl_IsClue.f x1.1 (x0.1, x0.2.1, x0.2.2)).bind fun y1 =>
 some (!y1) := by kernel_rfl
noncomputable def impl_total.g : Gam := []
theorem impl_total.gok : GOkI Tryz.prog I impl_total.g := GOkI.nil _ _
noncomputable def impl_total.i : FI := ⟨Tryz.f98, body Tryz.f98, (.seq .nil (.seq .nil (.seq (.seq .nil (.blk (.loop [3, 6, 7, 8] [] (.seq .nil (.seq (.cond .nil .nil) (.seq (.blk (.seq .nil .nil)) .nil)))))) (.seq .nil .nil)))), [], [], [.res (.tmp 2) (.v (.int .i64))]⟩
noncomputable def impl_total.sp : CSpec := mkSpec impl_total.g T impl_total.i
theorem impl_total.ok : SpecOk Tryz.prog I 98 impl_total.sp := mkSpec_ok hmix hI impl_total.gok tok impl_total.i Tryz.func98 (by kernel_rfl) (by kernel_rfl) (by kernel_rfl) (by kernel_rfl)
noncomputable def impl_total.f (x0 : List Int) : Option (Int) := run impl_total.g T impl_total.i [.v (.slice (.int .i64)) x0]
noncomputable def impl_total.l0 (x3 : Int) (x6 : List Int) (x7 : Int) (x8 : Int) : Option (Int) := runAt impl_total.g T impl_total.i [true, true, false, true, false] [(3, .val (.int .i64) x3), (6, .val (.slice (.int .i64)) x6), (7, .val (.int .i64) x7), (8, .val (.int .i64) x8)] []
theorem impl_total.f.eq (x0 : List Int) : impl_total.f x0 =
 impl_total.l0 0 x0 (x0.length : Int) 0 := by kernel_rfl
theorem impl_total.l0.eq (x3 : Int) (x6 : List Int) (x7 : Int) (x8 : Int) : impl_total.l0 x3 x6 x7 x8 =
 if (decide (x8 < x7)) = true then
  (rdI x6 x8).bind fun y2 =>
  impl_total.l0 (IntKind.i64.wrap (x3 + y2)) x6 x7 (IntKind.i64.wrap (x8 + 1))
 else
  some x3 := (runAt_loop _ _ _ _ _ _).trans (by kernel_rfl)
noncomputable def impl_product.g : Gam := []
theorem impl_product.gok : GOkI Tryz.prog I impl_product.g := GOkI.nil _ _
noncomputable def impl_product.i : FI := ⟨Tryz.f118, body Tryz.f118, (.seq .nil (.seq .nil (.seq (.seq .nil (.blk (.loop [3, 6, 7, 8] [] (.seq .nil (.seq (.cond .nil .nil) (.seq (.blk (.seq .nil .nil)) .nil)))))) (.seq .nil .nil)))), [], [], [.res (.tmp 2) (.v (.int .i64))]⟩
noncomputable def impl_product.sp : CSpec := mkSpec impl_product.g T impl_product.i
theorem impl_product.ok : SpecOk Tryz.prog I 118 impl_product.sp := mkSpec_ok hmix hI impl_product.gok tok impl_product.i Tryz.func118 (by kernel_rfl) (by kernel_rfl) (by kernel_rfl) (by kernel_rfl)
noncomputable def impl_product.f (x0 : List Int) : Option (Int) := run impl_product.g T impl_product.i [.v (.slice (.int .i64)) x0]
noncomputable def impl_product.l0 (x3 : Int) (x6 : List Int) (x7 : Int) (x8 : Int) : Option (Int) := runAt impl_product.g T impl_product.i [true, true, false, true, false] [(3, .val (.int .i64) x3), (6, .val (.slice (.int .i64)) x6), (7, .val (.int .i64) x7), (8, .val (.int .i64) x8)] []
theorem impl_product.f.eq (x0 : List Int) : impl_product.f x0 =
 impl_product.l0 1 x0 (x0.length : Int) 0 := by kernel_rfl
theorem impl_product.l0.eq (x3 : Int) (x6 : List Int) (x7 : Int) (x8 : Int) : impl_product.l0 x3 x6 x7 x8 =
 if (decide (x8 < x7)) = true then
  (rdI x6 x8).bind fun y2 =>
  impl_product.l0 (IntKind.i64.wrap (x3 * y2)) x6 x7 (IntKind.i64.wrap (x8 + 1))
 else
  some x3 := (runAt_loop _ _ _ _ _ _).trans (by kernel_rfl)
end Go.Proofs.YtecdijlfnnminaaGreatDoor.S
