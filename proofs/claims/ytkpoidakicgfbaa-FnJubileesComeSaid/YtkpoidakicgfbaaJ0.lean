/- What the functions of this seat come to, over plain values. No condition. -/
import Derived.Test.YtkpoidakicgfbaaE3
import Derived.Test.YtkpoidakicgfbaaProg
namespace Go.Proofs.Ytkpoidakicgfbaa.S
open Go Go.Proofs.Ytkpoidakicgfbaa.Eng Go.Proofs
set_option maxRecDepth 1000000
set_option linter.unusedVariables false
def T : Tys := [(3, ⟨(.int .i64), 0, 0, []⟩), (4, ⟨.bool, 0, 0, []⟩), (5, ⟨(.int .u8), 0, 0, []⟩), (22, ⟨(.slice (.int .u8)), 5, 1, []⟩), (24, ⟨(.slice (.int .i64)), 3, 8, []⟩), (27, ⟨(.slice (.slice (.int .i64))), 24, 24, []⟩), (56, ⟨(.int .u64), 0, 0, []⟩), (58, ⟨(.pair (.slice (.int .u8)) (.pair (.int .i64) (.int .u64))), 0, 0, [(22, 0), (3, 1), (56, 2)]⟩)]
theorem tok3 : TFits Try.prog T 3 ⟨(.int .i64), 0, 0, []⟩ := TFits.int' (by kernel_rfl) (by kernel_rfl) (by kernel_rfl)
theorem tok4 : TFits Try.prog T 4 ⟨.bool, 0, 0, []⟩ := TFits.bool' (by kernel_rfl) (by kernel_rfl) (by kernel_rfl)
theorem tok5 : TFits Try.prog T 5 ⟨(.int .u8), 0, 0, []⟩ := TFits.int' (by kernel_rfl) (by kernel_rfl) (by kernel_rfl)
theorem tok22 : TFits Try.prog T 22 ⟨(.slice (.int .u8)), 5, 1, []⟩ := TFits.slice' (by kernel_rfl) (by kernel_rfl) (by kernel_rfl) (by kernel_rfl) (by kernel_rfl) (by kernel_rfl)
theorem tok24 : TFits Try.prog T 24 ⟨(.slice (.int .i64)), 3, 8, []⟩ := TFits.slice' (by kernel_rfl) (by kernel_rfl) (by kernel_rfl) (by kernel_rfl) (by kernel_rfl) (by kernel_rfl)
theorem tok27 : TFits Try.prog T 27 ⟨(.slice (.slice (.int .i64))), 24, 24, []⟩ := TFits.slice' (by kernel_rfl) (by kernel_rfl) (by kernel_rfl) (by kernel_rfl) (by kernel_rfl) (by kernel_rfl)
theorem tok56 : TFits Try.prog T 56 ⟨(.int .u64), 0, 0, []⟩ := TFits.int' (by kernel_rfl) (by kernel_rfl) (by kernel_rfl)
theorem tok58 : TFits Try.prog T 58 ⟨(.pair (.slice (.int .u8)) (.pair (.int .i64) (.int .u64))), 0, 0, [(22, 0), (3, 1), (56, 2)]⟩ := TFits.pair' (by kernel_rfl) (by kernel_rfl) (by kernel_rfl) (by kernel_rfl)
theorem tok : TOk Try.prog T := TOkL.ok (((((((((TOkL.nil _ _).cons tok58).cons tok56).cons tok27).cons tok24).cons tok22).cons tok5).cons tok4).cons tok3)
theorem hmix : Try.prog.follows .mixedOrders = true := by kernel_rfl
def body (f : Func) : Code := f.body.getD .skip
noncomputable def laws_big.g : Gam := []
theorem laws_big.gok : GOk Try.prog laws_big.g := GOk.nil _
noncomputable def laws_big.i : FI := ⟨Try.f4, body Try.f4, (.seq .nil (.seq .nil .nil)), [], [], [.res (.tmp 4) (.v .bool)]⟩
noncomputable def laws_big.sp : CSpec := mkSpec laws_big.g T laws_big.i
theorem laws_big.ok : SpecOk Try.prog 4 laws_big.sp := mkSpec_ok hmix laws_big.gok tok laws_big.i Try.func4 (by kernel_rfl) (by kernel_rfl) (by kernel_rfl) (by kernel_rfl)
noncomputable def laws_big.f (x0 : List Int) (x1 : List Int) : Option (Bool) := run laws_big.g T laws_big.i [.v (.slice (.int .u8)) x0, .v (.slice (.int .u8)) x1]
theorem laws_big.f.eq (x0 : List Int) (x1 : List Int) : laws_big.f x0 x1 =
  if (decide ((x0.length : Int) > 1048576)) = true then
    some true
  else
    some (if false = true then true else (decide ((x1.length : Int) > (IntKind.i64.wrap (1048576 - (x0.length : Int)))))) := by kernel_rfl
noncomputable def spec_l1Cur_next.g : Gam := []
theorem spec_l1Cur_next.gok : GOk Try.prog spec_l1Cur_next.g := GOk.nil _
noncomputable def spec_l1Cur_next.i : FI := ⟨Try.f67, body Try.f67, (.seq .nil (.seq .nil (.seq (.seq .nil (.cond .nil .nil)) (.seq .nil (.seq .nil (.seq (.seq .nil (.cond (.seq .nil .nil) .nil)) (.seq .nil .nil))))))), [], [1000000], [.res (.tmp 2) (.v (.int .i64)), .box 1000000 0 (.slice (.int .u8)), .box 1000000 1 (.int .i64), .box 1000000 2 (.int .u64)]⟩
noncomputable def spec_l1Cur_next.sp : CSpec := mkSpec spec_l1Cur_next.g T spec_l1Cur_next.i
theorem spec_l1Cur_next.ok : SpecOk Try.prog 67 spec_l1Cur_next.sp := mkSpec_ok hmix spec_l1Cur_next.gok tok spec_l1Cur_next.i Try.func67 (by kernel_rfl) (by kernel_rfl) (by kernel_rfl) (by kernel_rfl)
noncomputable def spec_l1Cur_next.f (x0_0 : List Int) (x0_1 : Int) (x0_2 : Int) : Option (Int × (List Int) × Int × Int) := run spec_l1Cur_next.g T spec_l1Cur_next.i [.bx [⟨(.slice (.int .u8)), x0_0⟩, ⟨(.int .i64), x0_1⟩, ⟨(.int .u64), x0_2⟩]]
theorem spec_l1Cur_next.f.eq (x0_0 : List Int) (x0_1 : Int) (x0_2 : Int) : spec_l1Cur_next.f x0_0 x0_1 x0_2 =
  if (decide (x0_1 < (x0_0.length : Int))) = true then
    (rdI x0_0 x0_1).bind fun y3 =>
    let y5 := IntKind.i64.wrap (x0_1 + 1)
    let y9 := IntKind.u64.wrap ((IntKind.u64.wrap ((IntKind.u64.wrap (x0_2 * 6364136223846793005)) + (IntKind.u64.wrap (IntKind.i64.wrap y3)))) + 1442695040888963407)
    if (decide (y5 ≤ (x0_0.length : Int))) = true then
      some ((IntKind.i64.wrap y3), x0_0, y5, y9)
    else
      some ((IntKind.i64.wrap (bitI .and .u64 (shrI .u64 y9 40) 255)), x0_0, y5, y9)
  else
    let y15 := IntKind.i64.wrap (x0_1 + 1)
    let y19 := IntKind.u64.wrap ((IntKind.u64.wrap ((IntKind.u64.wrap (x0_2 * 6364136223846793005)) + (IntKind.u64.wrap 0))) + 1442695040888963407)
    if (decide (y15 ≤ (x0_0.length : Int))) = true then
      some (0, x0_0, y15, y19)
    else
      some ((IntKind.i64.wrap (bitI .and .u64 (shrI .u64 y19 40) 255)), x0_0, y15, y19) := by kernel_rfl
noncomputable def spec_l1Cur_pick.g : Gam := [(67, spec_l1Cur_next.sp)]
theorem spec_l1Cur_pick.gok : GOk Try.prog spec_l1Cur_pick.g := (GOk.nil _).cons spec_l1Cur_next.ok
noncomputable def spec_l1Cur_pick.i : FI := ⟨Try.f61, body Try.f61, (.seq .nil (.seq (.seq .nil (.cond (.seq .nil .nil) .nil)) (.seq .nil (.seq (.seq .nil (.cond .nil .nil)) (.seq .nil .nil))))), [], [1000000], [.res (.tmp 4) (.v (.int .i64)), .box 1000000 0 (.slice (.int .u8)), .box 1000000 1 (.int .i64), .box 1000000 2 (.int .u64)]⟩
noncomputable def spec_l1Cur_pick.sp : CSpec := mkSpec spec_l1Cur_pick.g T spec_l1Cur_pick.i
theorem spec_l1Cur_pick.ok : SpecOk Try.prog 61 spec_l1Cur_pick.sp := mkSpec_ok hmix spec_l1Cur_pick.gok tok spec_l1Cur_pick.i Try.func61 (by kernel_rfl) (by kernel_rfl) (by kernel_rfl) (by kernel_rfl)
noncomputable def spec_l1Cur_pick.f (x0_0 : List Int) (x0_1 : Int) (x0_2 : Int) (x1 : Int) : Option (Int × (List Int) × Int × Int) := run spec_l1Cur_pick.g T spec_l1Cur_pick.i [.bx [⟨(.slice (.int .u8)), x0_0⟩, ⟨(.int .i64), x0_1⟩, ⟨(.int .u64), x0_2⟩], .v (.int .i64) x1]
theorem spec_l1Cur_pick.f.eq (x0_0 : List Int) (x0_1 : Int) (x0_2 : Int) (x1 : Int) : spec_l1Cur_pick.f x0_0 x0_1 x0_2 x1 =
  if (decide (x1 ≤ 1)) = true then
    some (0, x0_0, x0_1, x0_2)
  else
    (spec_l1Cur_next.f x0_0 x0_1 x0_2).bind fun y2 =>
    if (decide (x1 > 200)) = true then
      (spec_l1Cur_next.f y2.2.1 y2.2.2.1 y2.2.2.2).bind fun y5 =>
      if x1 = 0 then
        none
      else
        some (((IntKind.i64.wrap ((IntKind.i64.wrap (y2.1 * 256)) + y5.1)).tmod x1), y5.2.1, y5.2.2.1, y5.2.2.2)
    else
      if x1 = 0 then
        none
      else
        some ((y2.1.tmod x1), y2.2.1, y2.2.2.1, y2.2.2.2) := by kernel_rfl
noncomputable def spec_l1Cur_one.g : Gam := [(61, spec_l1Cur_pick.sp)]
theorem spec_l1Cur_one.gok : GOk Try.prog spec_l1Cur_one.g := (GOk.nil _).cons spec_l1Cur_pick.ok
noncomputable def spec_l1Cur_one.i : FI := ⟨Try.f63, body Try.f63, (.seq .nil (.seq .nil .nil)), [], [1000000], [.res (.tmp 4) (.v .bool), .box 1000000 0 (.slice (.int .u8)), .box 1000000 1 (.int .i64), .box 1000000 2 (.int .u64)]⟩
noncomputable def spec_l1Cur_one.sp : CSpec := mkSpec spec_l1Cur_one.g T spec_l1Cur_one.i
theorem spec_l1Cur_one.ok : SpecOk Try.prog 63 spec_l1Cur_one.sp := mkSpec_ok hmix spec_l1Cur_one.gok tok spec_l1Cur_one.i Try.func63 (by kernel_rfl) (by kernel_rfl) (by kernel_rfl) (by kernel_rfl)
noncomputable def spec_l1Cur_one.f (x0_0 : List Int) (x0_1 : Int) (x0_2 : Int) (x1 : Int) : Option (Bool × (List Int) × Int × Int) := run spec_l1Cur_one.g T spec_l1Cur_one.i [.bx [⟨(.slice (.int .u8)), x0_0⟩, ⟨(.int .i64), x0_1⟩, ⟨(.int .u64), x0_2⟩], .v (.int .i64) x1]
theorem spec_l1Cur_one.f.eq (x0_0 : List Int) (x0_1 : Int) (x0_2 : Int) (x1 : Int) : spec_l1Cur_one.f x0_0 x0_1 x0_2 x1 =
  (spec_l1Cur_pick.f x0_0 x0_1 x0_2 x1).bind fun y1 =>
  some ((y1.1 == 0), y1.2.1, y1.2.2.1, y1.2.2.2) := by kernel_rfl
noncomputable def spec_l1Cur_among.g : Gam := [(61, spec_l1Cur_pick.sp)]
theorem spec_l1Cur_among.gok : GOk Try.prog spec_l1Cur_among.g := (GOk.nil _).cons spec_l1Cur_pick.ok
noncomputable def spec_l1Cur_among.i : FI := ⟨Try.f62, body Try.f62, (.seq .nil (.seq .nil .nil)), [], [1000000], [.res (.tmp 4) (.v (.int .i64)), .box 1000000 0 (.slice (.int .u8)), .box 1000000 1 (.int .i64), .box 1000000 2 (.int .u64)]⟩
noncomputable def spec_l1Cur_among.sp : CSpec := mkSpec spec_l1Cur_among.g T spec_l1Cur_among.i
theorem spec_l1Cur_among.ok : SpecOk Try.prog 62 spec_l1Cur_among.sp := mkSpec_ok hmix spec_l1Cur_among.gok tok spec_l1Cur_among.i Try.func62 (by kernel_rfl) (by kernel_rfl) (by kernel_rfl) (by kernel_rfl)
noncomputable def spec_l1Cur_among.f (x0_0 : List Int) (x0_1 : Int) (x0_2 : Int) (x1 : List Int) : Option (Int × (List Int) × Int × Int) := run spec_l1Cur_among.g T spec_l1Cur_among.i [.bx [⟨(.slice (.int .u8)), x0_0⟩, ⟨(.int .i64), x0_1⟩, ⟨(.int .u64), x0_2⟩], .v (.slice (.int .i64)) x1]
theorem spec_l1Cur_among.f.eq (x0_0 : List Int) (x0_1 : Int) (x0_2 : Int) (x1 : List Int) : spec_l1Cur_among.f x0_0 x0_1 x0_2 x1 =
  (spec_l1Cur_pick.f x0_0 x0_1 x0_2 (x1.length : Int)).bind fun y2 =>
  (rdI x1 y2.1).bind fun y3 =>
  some (y3, y2.2.1, y2.2.2.1, y2.2.2.2) := by kernel_rfl
noncomputable def spec_l1Cur_year.g : Gam := [(63, spec_l1Cur_one.sp), (62, spec_l1Cur_among.sp), (61, spec_l1Cur_pick.sp)]
theorem spec_l1Cur_year.gok : GOk Try.prog spec_l1Cur_year.g := (((GOk.nil _).cons spec_l1Cur_pick.ok).cons spec_l1Cur_among.ok).cons spec_l1Cur_one.ok
noncomputable def spec_l1Cur_year.i : FI := ⟨Try.f49, body Try.f49, (.seq .nil (.seq (.seq .nil (.cond (.seq .nil .nil) .nil)) (.seq .nil .nil))), [], [1000000], [.res (.tmp 2) (.v (.int .i64)), .box 1000000 0 (.slice (.int .u8)), .box 1000000 1 (.int .i64), .box 1000000 2 (.int .u64)]⟩
noncomputable def spec_l1Cur_year.sp : CSpec := mkSpec spec_l1Cur_year.g T spec_l1Cur_year.i
theorem spec_l1Cur_year.ok : SpecOk Try.prog 49 spec_l1Cur_year.sp := mkSpec_ok hmix spec_l1Cur_year.gok tok spec_l1Cur_year.i Try.func49 (by kernel_rfl) (by kernel_rfl) (by kernel_rfl) (by kernel_rfl)
noncomputable def spec_l1Cur_year.f (x0_0 : List Int) (x0_1 : Int) (x0_2 : Int) : Option (Int × (List Int) × Int × Int) := run spec_l1Cur_year.g T spec_l1Cur_year.i [.bx [⟨(.slice (.int .u8)), x0_0⟩, ⟨(.int .i64), x0_1⟩, ⟨(.int .u64), x0_2⟩]]
theorem spec_l1Cur_year.f.eq (x0_0 : List Int) (x0_1 : Int) (x0_2 : Int) : spec_l1Cur_year.f x0_0 x0_1 x0_2 =
  (spec_l1Cur_one.f x0_0 x0_1 x0_2 10).bind fun y1 =>
  if y1.1 = true then
    (spec_l1Cur_among.f y1.2.1 y1.2.2.1 y1.2.2.2 [(-1), 0, 1, 2999, 3000, 3001, 4611686018427387904]).bind fun y2 =>
    some (y2.1, y2.2.1, y2.2.2.1, y2.2.2.2)
  else
    (spec_l1Cur_pick.f y1.2.1 y1.2.2.1 y1.2.2.2 110).bind fun y3 =>
    some ((IntKind.i64.wrap (1925 + y3.1)), y3.2.1, y3.2.2.1, y3.2.2.2) := by kernel_rfl
noncomputable def spec_l1Least.g : Gam := []
theorem spec_l1Least.gok : GOk Try.prog spec_l1Least.g := GOk.nil _
noncomputable def spec_l1Least.i : FI := ⟨Try.f64, body Try.f64, (.seq .nil (.seq (.seq .nil (.cond (.seq .nil .nil) .nil)) (.seq .nil .nil))), [], [], [.res (.tmp 4) (.v (.int .i64))]⟩
noncomputable def spec_l1Least.sp : CSpec := mkSpec spec_l1Least.g T spec_l1Least.i
theorem spec_l1Least.ok : SpecOk Try.prog 64 spec_l1Least.sp := mkSpec_ok hmix spec_l1Least.gok tok spec_l1Least.i Try.func64 (by kernel_rfl) (by kernel_rfl) (by kernel_rfl) (by kernel_rfl)
noncomputable def spec_l1Least.f (x0 : Int) (x1 : Int) : Option (Int) := run spec_l1Least.g T spec_l1Least.i [.v (.int .i64) x0, .v (.int .i64) x1]
theorem spec_l1Least.f.eq (x0 : Int) (x1 : Int) : spec_l1Least.f x0 x1 =
  if (decide (x0 < x1)) = true then
    some x0
  else
    some x1 := by kernel_rfl
noncomputable def spec_l1Cur_span.g : Gam := [(49, spec_l1Cur_year.sp), (63, spec_l1Cur_one.sp), (64, spec_l1Least.sp), (62, spec_l1Cur_among.sp), (61, spec_l1Cur_pick.sp)]
theorem spec_l1Cur_span.gok : GOk Try.prog spec_l1Cur_span.g := (((((GOk.nil _).cons spec_l1Cur_pick.ok).cons spec_l1Cur_among.ok).cons spec_l1Least.ok).cons spec_l1Cur_one.ok).cons spec_l1Cur_year.ok
noncomputable def spec_l1Cur_span.i : FI := ⟨Try.f48, body Try.f48, (.seq .nil (.seq .nil (.seq (.seq .nil (.cond (.seq .nil .nil) .nil)) (.seq .nil .nil)))), [], [1000000], [.res (.tmp 2) (.v (.int .i64)), .res (.tmp 3) (.v (.int .i64)), .box 1000000 0 (.slice (.int .u8)), .box 1000000 1 (.int .i64), .box 1000000 2 (.int .u64)]⟩
noncomputable def spec_l1Cur_span.sp : CSpec := mkSpec spec_l1Cur_span.g T spec_l1Cur_span.i
theorem spec_l1Cur_span.ok : SpecOk Try.prog 48 spec_l1Cur_span.sp := mkSpec_ok hmix spec_l1Cur_span.gok tok spec_l1Cur_span.i Try.func48 (by kernel_rfl) (by kernel_rfl) (by kernel_rfl) (by kernel_rfl)
noncomputable def spec_l1Cur_span.f (x0_0 : List Int) (x0_1 : Int) (x0_2 : Int) : Option (Int × Int × (List Int) × Int × Int) := run spec_l1Cur_span.g T spec_l1Cur_span.i [.bx [⟨(.slice (.int .u8)), x0_0⟩, ⟨(.int .i64), x0_1⟩, ⟨(.int .u64), x0_2⟩]]
theorem spec_l1Cur_span.f.eq (x0_0 : List Int) (x0_1 : Int) (x0_2 : Int) : spec_l1Cur_span.f x0_0 x0_1 x0_2 =
  (spec_l1Cur_year.f x0_0 x0_1 x0_2).bind fun y1 =>
  (spec_l1Cur_one.f y1.2.1 y1.2.2.1 y1.2.2.2 10).bind fun y2 =>
  if y2.1 = true then
    (spec_l1Least.f y1.1 5000).bind fun y3 =>
    (spec_l1Cur_among.f y2.2.1 y2.2.2.1 y2.2.2.2 [(-1), 0, 199, 200, 201]).bind fun y4 =>
    some (y1.1, (IntKind.i64.wrap (y3 + y4.1)), y4.2.1, y4.2.2.1, y4.2.2.2)
  else
    (spec_l1Least.f y1.1 5000).bind fun y6 =>
    (spec_l1Cur_pick.f y2.2.1 y2.2.2.1 y2.2.2.2 50).bind fun y7 =>
    some (y1.1, (IntKind.i64.wrap (y6 + y7.1)), y7.2.1, y7.2.2.1, y7.2.2.2) := by kernel_rfl
noncomputable def spec_l1Cur_sureBorn.g : Gam := [(61, spec_l1Cur_pick.sp)]
theorem spec_l1Cur_sureBorn.gok : GOk Try.prog spec_l1Cur_sureBorn.g := (GOk.nil _).cons spec_l1Cur_pick.ok
noncomputable def spec_l1Cur_sureBorn.i : FI := ⟨Try.f60, body Try.f60, (.seq .nil (.seq .nil (.seq (.seq .nil (.blk (.loop [0, 5, 6] [1000000] (.seq (.seq .nil (.cond .nil .nil)) (.seq (.blk .nil) .nil))))) (.seq .nil .nil)))), [], [1000000], [.res (.tmp 4) (.own 3 (.int .i64)), .box 1000000 0 (.slice (.int .u8)), .box 1000000 1 (.int .i64), .box 1000000 2 (.int .u64)]⟩
noncomputable def spec_l1Cur_sureBorn.sp : CSpec := mkSpec spec_l1Cur_sureBorn.g T spec_l1Cur_sureBorn.i
theorem spec_l1Cur_sureBorn.ok : SpecOk Try.prog 60 spec_l1Cur_sureBorn.sp := mkSpec_ok hmix spec_l1Cur_sureBorn.gok tok spec_l1Cur_sureBorn.i Try.func60 (by kernel_rfl) (by kernel_rfl) (by kernel_rfl) (by kernel_rfl)
noncomputable def spec_l1Cur_sureBorn.f (x0_0 : List Int) (x0_1 : Int) (x0_2 : Int) (x1 : Int) : Option ((List Int) × (List Int) × Int × Int) := run spec_l1Cur_sureBorn.g T spec_l1Cur_sureBorn.i [.bx [⟨(.slice (.int .u8)), x0_0⟩, ⟨(.int .i64), x0_1⟩, ⟨(.int .u64), x0_2⟩], .v (.int .i64) x1]
noncomputable def spec_l1Cur_sureBorn.l0 (x5 : List Int) (x6 : Int) (x0_0 : List Int) (x0_1 : Int) (x0_2 : Int) : Option ((List Int) × (List Int) × Int × Int) := runAt spec_l1Cur_sureBorn.g T spec_l1Cur_sureBorn.i [true, true, false, true, false] [(0, .ptr 1000000 0), (5, .own 3 (.int .i64) x5), (6, .val (.int .i64) x6)] [(1000000, [⟨(.slice (.int .u8)), x0_0⟩, ⟨(.int .i64), x0_1⟩, ⟨(.int .u64), x0_2⟩])]
theorem spec_l1Cur_sureBorn.f.eq (x0_0 : List Int) (x0_1 : Int) (x0_2 : Int) (x1 : Int) : spec_l1Cur_sureBorn.f x0_0 x0_1 x0_2 x1 =
  (spec_l1Cur_pick.f x0_0 x0_1 x0_2 x1).bind fun y1 =>
  spec_l1Cur_sureBorn.l0 [] (IntKind.i64.wrap (1 + y1.1)) y1.2.1 y1.2.2.1 y1.2.2.2 := by kernel_rfl
theorem spec_l1Cur_sureBorn.l0.eq (x5 : List Int) (x6 : Int) (x0_0 : List Int) (x0_1 : Int) (x0_2 : Int) : spec_l1Cur_sureBorn.l0 x5 x6 x0_0 x0_1 x0_2 =
  if (decide (x6 > 0)) = true then
    (spec_l1Cur_pick.f x0_0 x0_1 x0_2 12).bind fun y2 =>
    (spec_l1Cur_pick.f y2.2.1 y2.2.2.1 y2.2.2.2 3).bind fun y5 =>
    (catI (appMax 8) x5 [(IntKind.i64.wrap ((IntKind.i64.wrap (1930 + (IntKind.i64.wrap (5 * y2.1)))) + (IntKind.i64.wrap (y5.1.tdiv 2))))]).bind fun y8 =>
    spec_l1Cur_sureBorn.l0 y8 (IntKind.i64.wrap (x6 - 1)) y5.2.1 y5.2.2.1 y5.2.2.2
  else
    some (x5, x0_0, x0_1, x0_2) := (runAt_loop _ _ _ _ _ _).trans (by kernel_rfl)
noncomputable def spec_l1Cur_born.g : Gam := [(60, spec_l1Cur_sureBorn.sp), (61, spec_l1Cur_pick.sp), (62, spec_l1Cur_among.sp)]
theorem spec_l1Cur_born.gok : GOk Try.prog spec_l1Cur_born.g := (((GOk.nil _).cons spec_l1Cur_among.ok).cons spec_l1Cur_pick.ok).cons spec_l1Cur_sureBorn.ok
noncomputable def spec_l1Cur_born.i : FI := ⟨Try.f46, body Try.f46, (.seq .nil (.seq .nil (.seq (.seq .nil (.blk (.seq .nil (.cond (.seq .nil .nil) (.seq .nil (.cond .nil (.seq .nil (.cond (.blk (.loop [0, 3] [1000000] (.seq (.seq .nil (.cond .nil .nil)) (.blk .nil)))) .nil)))))))) (.seq .nil .nil)))), [], [1000000], [.res (.tmp 2) (.own 3 (.int .i64)), .box 1000000 0 (.slice (.int .u8)), .box 1000000 1 (.int .i64), .box 1000000 2 (.int .u64)]⟩
noncomputable def spec_l1Cur_born.sp : CSpec := mkSpec spec_l1Cur_born.g T spec_l1Cur_born.i
theorem spec_l1Cur_born.ok : SpecOk Try.prog 46 spec_l1Cur_born.sp := mkSpec_ok hmix spec_l1Cur_born.gok tok spec_l1Cur_born.i Try.func46 (by kernel_rfl) (by kernel_rfl) (by kernel_rfl) (by kernel_rfl)
noncomputable def spec_l1Cur_born.f (x0_0 : List Int) (x0_1 : Int) (x0_2 : Int) : Option ((List Int) × (List Int) × Int × Int) := run spec_l1Cur_born.g T spec_l1Cur_born.i [.bx [⟨(.slice (.int .u8)), x0_0⟩, ⟨(.int .i64), x0_1⟩, ⟨(.int .u64), x0_2⟩]]
noncomputable def spec_l1Cur_born.l0 (x3 : List Int) (x0_0 : List Int) (x0_1 : Int) (x0_2 : Int) : Option ((List Int) × (List Int) × Int × Int) := runAt spec_l1Cur_born.g T spec_l1Cur_born.i [true, true, false, true, false, true, true, true, true, true, false, false] [(0, .ptr 1000000 0), (3, .own 3 (.int .i64) x3)] [(1000000, [⟨(.slice (.int .u8)), x0_0⟩, ⟨(.int .i64), x0_1⟩, ⟨(.int .u64), x0_2⟩])]
theorem spec_l1Cur_born.f.eq (x0_0 : List Int) (x0_1 : Int) (x0_2 : Int) : spec_l1Cur_born.f x0_0 x0_1 x0_2 =
  (spec_l1Cur_sureBorn.f x0_0 x0_1 x0_2 5).bind fun y1 =>
  (spec_l1Cur_pick.f y1.2.1 y1.2.2.1 y1.2.2.2 20).bind fun y2 =>
  if (y2.1 == 0) = true then
    some ([], y2.2.1, y2.2.2.1, y2.2.2.2)
  else
    if (y2.1 == 1) = true then
      (spec_l1Cur_among.f y2.2.1 y2.2.2.1 y2.2.2.2 [(-1), 0, 2900, 2901, 4611686018427387904]).bind fun y5 =>
      (catI (appMax 8) y1.1 [y5.1]).bind fun y6 =>
      some (y6, y5.2.1, y5.2.2.1, y5.2.2.2)
    else
      if (y2.1 == 2) = true then
        spec_l1Cur_born.l0 y1.1 y2.2.1 y2.2.2.1 y2.2.2.2
      else
        some (y1.1, y2.2.1, y2.2.2.1, y2.2.2.2) := by kernel_rfl
theorem spec_l1Cur_born.l0.eq (x3 : List Int) (x0_0 : List Int) (x0_1 : Int) (x0_2 : Int) : spec_l1Cur_born.l0 x3 x0_0 x0_1 x0_2 =
  (spec_l1Cur_pick.f x0_0 x0_1 x0_2 2).bind fun y2 =>
  if (decide ((x3.length : Int) < (IntKind.i64.wrap (10 + y2.1)))) = true then
    (catI (appMax 8) x3 [1970]).bind fun y5 =>
    spec_l1Cur_born.l0 y5 y2.2.1 y2.2.2.1 y2.2.2.2
  else
    some (x3, y2.2.1, y2.2.2.1, y2.2.2.2) := (runAt_loop _ _ _ _ _ _).trans (by kernel_rfl)
noncomputable def spec_l1Cur_jubilee.g : Gam := [(62, spec_l1Cur_among.sp)]
theorem spec_l1Cur_jubilee.gok : GOk Try.prog spec_l1Cur_jubilee.g := (GOk.nil _).cons spec_l1Cur_among.ok
noncomputable def spec_l1Cur_jubilee.i : FI := ⟨Try.f47, body Try.f47, (.seq .nil (.seq .nil .nil)), [], [1000000], [.res (.tmp 2) (.v (.int .i64)), .box 1000000 0 (.slice (.int .u8)), .box 1000000 1 (.int .i64), .box 1000000 2 (.int .u64)]⟩
noncomputable def spec_l1Cur_jubilee.sp : CSpec := mkSpec spec_l1Cur_jubilee.g T spec_l1Cur_jubilee.i
theorem spec_l1Cur_jubilee.ok : SpecOk Try.prog 47 spec_l1Cur_jubilee.sp := mkSpec_ok hmix spec_l1Cur_jubilee.gok tok spec_l1Cur_jubilee.i Try.func47 (by kernel_rfl) (by kernel_rfl) (by kernel_rfl) (by kernel_rfl)
noncomputable def spec_l1Cur_jubilee.f (x0_0 : List Int) (x0_1 : Int) (x0_2 : Int) : Option (Int × (List Int) × Int × Int) := run spec_l1Cur_jubilee.g T spec_l1Cur_jubilee.i [.bx [⟨(.slice (.int .u8)), x0_0⟩, ⟨(.int .i64), x0_1⟩, ⟨(.int .u64), x0_2⟩]]
theorem spec_l1Cur_jubilee.f.eq (x0_0 : List Int) (x0_1 : Int) (x0_2 : Int) : spec_l1Cur_jubilee.f x0_0 x0_1 x0_2 =
  (spec_l1Cur_among.f x0_0 x0_1 x0_2 [1, 5, 5, 10, 10, 20, 25, 50, 100, 101, 0]).bind fun y1 =>
  some (y1.1, y1.2.1, y1.2.2.1, y1.2.2.2) := by kernel_rfl
noncomputable def spec_DrawCountJubilees.g : Gam := [(48, spec_l1Cur_span.sp), (46, spec_l1Cur_born.sp), (47, spec_l1Cur_jubilee.sp)]
theorem spec_DrawCountJubilees.gok : GOk Try.prog spec_DrawCountJubilees.g := (((GOk.nil _).cons spec_l1Cur_jubilee.ok).cons spec_l1Cur_born.ok).cons spec_l1Cur_span.ok
noncomputable def spec_DrawCountJubilees.i : FI := ⟨Try.f33, body Try.f33, (.seq .nil (.seq .nil (.seq .nil (.seq .nil .nil)))), [], [], [.res (.tmp 2) (.own 3 (.int .i64)), .res (.tmp 3) (.v (.int .i64)), .res (.tmp 4) (.v (.int .i64)), .res (.tmp 5) (.v (.int .i64))]⟩
noncomputable def spec_DrawCountJubilees.sp : CSpec := mkSpec spec_DrawCountJubilees.g T spec_DrawCountJubilees.i
theorem spec_DrawCountJubilees.ok : SpecOk Try.prog 33 spec_DrawCountJubilees.sp := mkSpec_ok hmix spec_DrawCountJubilees.gok tok spec_DrawCountJubilees.i Try.func33 (by kernel_rfl) (by kernel_rfl) (by kernel_rfl) (by kernel_rfl)
noncomputable def spec_DrawCountJubilees.f (x0 : List Int) : Option ((List Int) × Int × Int × Int) := run spec_DrawCountJubilees.g T spec_DrawCountJubilees.i [.v (.slice (.int .u8)) x0]
theorem spec_DrawCountJubilees.f.eq (x0 : List Int) : spec_DrawCountJubilees.f x0 =
  (spec_l1Cur_span.f x0 0 0).bind fun y1 =>
  (spec_l1Cur_born.f y1.2.2.1 y1.2.2.2.1 y1.2.2.2.2).bind fun y2 =>
  (spec_l1Cur_jubilee.f y2.2.1 y2.2.2.1 y2.2.2.2).bind fun y3 =>
  some (y2.1, y1.1, y1.2.1, y3.1) := by kernel_rfl
noncomputable def spec_DrawCalendarOf.g : Gam := [(33, spec_DrawCountJubilees.sp)]
theorem spec_DrawCalendarOf.gok : GOk Try.prog spec_DrawCalendarOf.g := (GOk.nil _).cons spec_DrawCountJubilees.ok
noncomputable def spec_DrawCalendarOf.i : FI := ⟨Try.f5, body Try.f5, (.seq .nil (.seq .nil .nil)), [], [], [.res (.tmp 2) (.own 3 (.int .i64)), .res (.tmp 3) (.v (.int .i64)), .res (.tmp 4) (.v (.int .i64)), .res (.tmp 5) (.v (.int .i64))]⟩
noncomputable def spec_DrawCalendarOf.sp : CSpec := mkSpec spec_DrawCalendarOf.g T spec_DrawCalendarOf.i
theorem spec_DrawCalendarOf.ok : SpecOk Try.prog 5 spec_DrawCalendarOf.sp := mkSpec_ok hmix spec_DrawCalendarOf.gok tok spec_DrawCalendarOf.i Try.func5 (by kernel_rfl) (by kernel_rfl) (by kernel_rfl) (by kernel_rfl)
noncomputable def spec_DrawCalendarOf.f (x0 : List Int) : Option ((List Int) × Int × Int × Int) := run spec_DrawCalendarOf.g T spec_DrawCalendarOf.i [.v (.slice (.int .u8)) x0]
theorem spec_DrawCalendarOf.f.eq (x0 : List Int) : spec_DrawCalendarOf.f x0 =
  (spec_DrawCountJubilees.f x0).bind fun y1 =>
  some (y1.1, y1.2.1, y1.2.2.1, y1.2.2.2) := by kernel_rfl
noncomputable def impl_between.g : Gam := []
theorem impl_between.gok : GOk Try.prog impl_between.g := GOk.nil _
noncomputable def impl_between.i : FI := ⟨Try.f37, body Try.f37, (.seq .nil (.seq .nil .nil)), [], [], [.res (.tmp 6) (.v .bool)]⟩
noncomputable def impl_between.sp : CSpec := mkSpec impl_between.g T impl_between.i
theorem impl_between.ok : SpecOk Try.prog 37 impl_between.sp := mkSpec_ok hmix impl_between.gok tok impl_between.i Try.func37 (by kernel_rfl) (by kernel_rfl) (by kernel_rfl) (by kernel_rfl)
noncomputable def impl_between.f (x0 : Int) (x1 : Int) (x2 : Int) : Option (Bool) := run impl_between.g T impl_between.i [.v (.int .i64) x0, .v (.int .i64) x1, .v (.int .i64) x2]
theorem impl_between.f.eq (x0 : Int) (x1 : Int) (x2 : Int) : impl_between.f x0 x1 x2 =
  if (decide (x0 ≥ x1)) = true then
    some (if true = true then (decide (x0 ≤ x2)) else false)
  else
    some false := by kernel_rfl
noncomputable def impl_areBetween_1.g : Gam := [(37, impl_between.sp)]
theorem impl_areBetween_1.gok : GOk Try.prog impl_areBetween_1.g := (GOk.nil _).cons impl_between.ok
noncomputable def impl_areBetween_1.i : FI := ⟨Try.f57, body Try.f57, (.seq .nil (.seq .nil .nil)), [], [], [.res (.tmp 4) (.v .bool)]⟩
noncomputable def impl_areBetween_1.sp : CSpec := mkSpec impl_areBetween_1.g T impl_areBetween_1.i
theorem impl_areBetween_1.ok : SpecOk Try.prog 57 impl_areBetween_1.sp := mkSpec_ok hmix impl_areBetween_1.gok tok impl_areBetween_1.i Try.func57 (by kernel_rfl) (by kernel_rfl) (by kernel_rfl) (by kernel_rfl)
noncomputable def impl_areBetween_1.f (x0 : Int) (x1 : Int) (x2 : Int) : Option (Bool) := run impl_areBetween_1.g T impl_areBetween_1.i [.v (.int .i64) x0, .cr (.int .i64) x1, .cr (.int .i64) x2]
theorem impl_areBetween_1.f.eq (x0 : Int) (x1 : Int) (x2 : Int) : impl_areBetween_1.f x0 x1 x2 =
  (impl_between.f x0 x1 x2).bind fun y1 =>
  some (!y1) := by kernel_rfl
noncomputable def slices_IndexFunc.g : Gam := [(57, impl_areBetween_1.sp)]
theorem slices_IndexFunc.gok : GOk Try.prog slices_IndexFunc.g := (GOk.nil _).cons impl_areBetween_1.ok
noncomputable def slices_IndexFunc.i : FI := ⟨Try.f65, body Try.f65, (.seq .nil (.seq (.seq .nil (.blk (.loop [0, 1, 7, 8] [] (.seq .nil (.seq (.cond .nil .nil) (.seq (.blk (.seq .nil (.seq .nil (.cond (.seq .nil .nil) .nil)))) .nil)))))) (.seq .nil .nil))), [], [], [.res (.tmp 4) (.v (.int .i64))]⟩
noncomputable def slices_IndexFunc.sp : CSpec := mkSpec slices_IndexFunc.g T slices_IndexFunc.i
theorem slices_IndexFunc.ok : SpecOk Try.prog 65 slices_IndexFunc.sp := mkSpec_ok hmix slices_IndexFunc.gok tok slices_IndexFunc.i Try.func65 (by kernel_rfl) (by kernel_rfl) (by kernel_rfl) (by kernel_rfl)
noncomputable def slices_IndexFunc.f (x0 : List Int) (x1_0 : Int) (x1_1 : Int) : Option (Int) := run slices_IndexFunc.g T slices_IndexFunc.i [.v (.slice (.int .i64)) x0, .clo (closure impl_areBetween_1.sp [.cr (.int .i64) x1_0, .cr (.int .i64) x1_1])]
noncomputable def slices_IndexFunc.l0 (x0 : List Int) (x1_0 : Int) (x1_1 : Int) (x7 : Int) (x8 : Int) : Option (Int) := runAt slices_IndexFunc.g T slices_IndexFunc.i [true, false, true, false] [(0, .val (.slice (.int .i64)) x0), (1, .clo (closure impl_areBetween_1.sp [.cr (.int .i64) x1_0, .cr (.int .i64) x1_1])), (7, .val (.int .i64) x7), (8, .val (.int .i64) x8)] []
theorem slices_IndexFunc.f.eq (x0 : List Int) (x1_0 : Int) (x1_1 : Int) : slices_IndexFunc.f x0 x1_0 x1_1 =
  slices_IndexFunc.l0 x0 x1_0 x1_1 (x0.length : Int) 0 := by kernel_rfl
theorem slices_IndexFunc.l0.eq (x0 : List Int) (x1_0 : Int) (x1_1 : Int) (x7 : Int) (x8 : Int) : slices_IndexFunc.l0 x0 x1_0 x1_1 x7 x8 =
  if (decide (x8 < x7)) = true then
    (rdI x0 x8).bind fun y2 =>
    ((impl_areBetween_1.f y2 x1_0 x1_1).bind some).bind fun y3 =>
    if y3 = true then
      some x8
    else
      slices_IndexFunc.l0 x0 x1_0 x1_1 x7 (IntKind.i64.wrap (x8 + 1))
  else
    some (-1) := (runAt_loop _ _ _ _ _ _).trans (by kernel_rfl)
noncomputable def slices_ContainsFunc.g : Gam := [(65, slices_IndexFunc.sp)]
theorem slices_ContainsFunc.gok : GOk Try.prog slices_ContainsFunc.g := (GOk.nil _).cons slices_IndexFunc.ok
noncomputable def slices_ContainsFunc.i : FI := ⟨Try.f56, body Try.f56, (.seq .nil (.seq .nil .nil)), [], [], [.res (.tmp 4) (.v .bool)]⟩
noncomputable def slices_ContainsFunc.sp : CSpec := mkSpec slices_ContainsFunc.g T slices_ContainsFunc.i
theorem slices_ContainsFunc.ok : SpecOk Try.prog 56 slices_ContainsFunc.sp := mkSpec_ok hmix slices_ContainsFunc.gok tok slices_ContainsFunc.i Try.func56 (by kernel_rfl) (by kernel_rfl) (by kernel_rfl) (by kernel_rfl)
noncomputable def slices_ContainsFunc.f (x0 : List Int) (x1_0 : Int) (x1_1 : Int) : Option (Bool) := run slices_ContainsFunc.g T slices_ContainsFunc.i [.v (.slice (.int .i64)) x0, .clo (closure impl_areBetween_1.sp [.cr (.int .i64) x1_0, .cr (.int .i64) x1_1])]
theorem slices_ContainsFunc.f.eq (x0 : List Int) (x1_0 : Int) (x1_1 : Int) : slices_ContainsFunc.f x0 x1_0 x1_1 =
  (slices_IndexFunc.f x0 x1_0 x1_1).bind fun y1 =>
  some (decide (y1 ≥ 0)) := by kernel_rfl
noncomputable def impl_areBetween.g : Gam := [(56, slices_ContainsFunc.sp), (57, impl_areBetween_1.sp)]
theorem impl_areBetween.gok : GOk Try.prog impl_areBetween.g := ((GOk.nil _).cons impl_areBetween_1.ok).cons slices_ContainsFunc.ok
noncomputable def impl_areBetween.i : FI := ⟨Try.f38, body Try.f38, (.seq .nil (.seq .nil .nil)), [], [], [.res (.tmp 6) (.v .bool)]⟩
noncomputable def impl_areBetween.sp : CSpec := mkSpec impl_areBetween.g T impl_areBetween.i
theorem impl_areBetween.ok : SpecOk Try.prog 38 impl_areBetween.sp := mkSpec_ok hmix impl_areBetween.gok tok impl_areBetween.i Try.func38 (by kernel_rfl) (by kernel_rfl) (by kernel_rfl) (by kernel_rfl)
noncomputable def impl_areBetween.f (x0 : List Int) (x1 : Int) (x2 : Int) : Option (Bool) := run impl_areBetween.g T impl_areBetween.i [.v (.slice (.int .i64)) x0, .v (.int .i64) x1, .v (.int .i64) x2]
theorem impl_areBetween.f.eq (x0 : List Int) (x1 : Int) (x2 : Int) : impl_areBetween.f x0 x1 x2 =
  (slices_ContainsFunc.f x0 x1 x2).bind fun y1 =>
  some (!y1) := by kernel_rfl
noncomputable def impl_AreBirths.g : Gam := [(37, impl_between.sp), (38, impl_areBetween.sp)]
theorem impl_AreBirths.gok : GOk Try.prog impl_AreBirths.g := ((GOk.nil _).cons impl_areBetween.ok).cons impl_between.ok
noncomputable def impl_AreBirths.i : FI := ⟨Try.f15, body Try.f15, (.seq .nil (.seq .nil .nil)), [], [], [.res (.tmp 2) (.v .bool)]⟩
noncomputable def impl_AreBirths.sp : CSpec := mkSpec impl_AreBirths.g T impl_AreBirths.i
theorem impl_AreBirths.ok : SpecOk Try.prog 15 impl_AreBirths.sp := mkSpec_ok hmix impl_AreBirths.gok tok impl_AreBirths.i Try.func15 (by kernel_rfl) (by kernel_rfl) (by kernel_rfl) (by kernel_rfl)
noncomputable def impl_AreBirths.f (x0 : List Int) : Option (Bool) := run impl_AreBirths.g T impl_AreBirths.i [.v (.slice (.int .i64)) x0]
theorem impl_AreBirths.f.eq (x0 : List Int) : impl_AreBirths.f x0 =
  (impl_between.f (x0.length : Int) 1 10).bind fun y2 =>
  if y2 = true then
    (impl_areBetween.f x0 0 2900).bind fun y3 =>
    some (if true = true then y3 else false)
  else
    some false := by kernel_rfl
noncomputable def impl_isYear.g : Gam := [(37, impl_between.sp)]
theorem impl_isYear.gok : GOk Try.prog impl_isYear.g := (GOk.nil _).cons impl_between.ok
noncomputable def impl_isYear.i : FI := ⟨Try.f40, body Try.f40, (.seq .nil (.seq .nil .nil)), [], [], [.res (.tmp 2) (.v .bool)]⟩
noncomputable def impl_isYear.sp : CSpec := mkSpec impl_isYear.g T impl_isYear.i
theorem impl_isYear.ok : SpecOk Try.prog 40 impl_isYear.sp := mkSpec_ok hmix impl_isYear.gok tok impl_isYear.i Try.func40 (by kernel_rfl) (by kernel_rfl) (by kernel_rfl) (by kernel_rfl)
noncomputable def impl_isYear.f (x0 : Int) : Option (Bool) := run impl_isYear.g T impl_isYear.i [.v (.int .i64) x0]
theorem impl_isYear.f.eq (x0 : Int) : impl_isYear.f x0 =
  (impl_between.f x0 0 3000).bind fun y1 =>
  some y1 := by kernel_rfl
noncomputable def impl_isSpan.g : Gam := [(40, impl_isYear.sp), (37, impl_between.sp)]
theorem impl_isSpan.gok : GOk Try.prog impl_isSpan.g := ((GOk.nil _).cons impl_between.ok).cons impl_isYear.ok
noncomputable def impl_isSpan.i : FI := ⟨Try.f50, body Try.f50, (.seq .nil (.seq .nil .nil)), [], [], [.res (.tmp 4) (.v .bool)]⟩
noncomputable def impl_isSpan.sp : CSpec := mkSpec impl_isSpan.g T impl_isSpan.i
theorem impl_isSpan.ok : SpecOk Try.prog 50 impl_isSpan.sp := mkSpec_ok hmix impl_isSpan.gok tok impl_isSpan.i Try.func50 (by kernel_rfl) (by kernel_rfl) (by kernel_rfl) (by kernel_rfl)
noncomputable def impl_isSpan.f (x0 : Int) (x1 : Int) : Option (Bool) := run impl_isSpan.g T impl_isSpan.i [.v (.int .i64) x0, .v (.int .i64) x1]
theorem impl_isSpan.f.eq (x0 : Int) (x1 : Int) : impl_isSpan.f x0 x1 =
  (impl_isYear.f x0).bind fun y1 =>
  if y1 = true then
    (impl_between.f x1 x0 3000).bind fun y2 =>
    if (if true = true then y2 else false) = true then
      some (if true = true then (decide ((IntKind.i64.wrap (x1 - x0)) < 200)) else false)
    else
      some false
  else
    some false := by kernel_rfl
noncomputable def impl_isEvery.g : Gam := [(37, impl_between.sp)]
theorem impl_isEvery.gok : GOk Try.prog impl_isEvery.g := (GOk.nil _).cons impl_between.ok
noncomputable def impl_isEvery.i : FI := ⟨Try.f41, body Try.f41, (.seq .nil (.seq .nil .nil)), [], [], [.res (.tmp 2) (.v .bool)]⟩
noncomputable def impl_isEvery.sp : CSpec := mkSpec impl_isEvery.g T impl_isEvery.i
theorem impl_isEvery.ok : SpecOk Try.prog 41 impl_isEvery.sp := mkSpec_ok hmix impl_isEvery.gok tok impl_isEvery.i Try.func41 (by kernel_rfl) (by kernel_rfl) (by kernel_rfl) (by kernel_rfl)
noncomputable def impl_isEvery.f (x0 : Int) : Option (Bool) := run impl_isEvery.g T impl_isEvery.i [.v (.int .i64) x0]
theorem impl_isEvery.f.eq (x0 : Int) : impl_isEvery.f x0 =
  (impl_between.f x0 1 100).bind fun y1 =>
  some y1 := by kernel_rfl
noncomputable def impl_isAge.g : Gam := [(37, impl_between.sp)]
theorem impl_isAge.gok : GOk Try.prog impl_isAge.g := (GOk.nil _).cons impl_between.ok
noncomputable def impl_isAge.i : FI := ⟨Try.f66, body Try.f66, (.seq .nil (.seq .nil .nil)), [], [], [.res (.tmp 2) (.v .bool)]⟩
noncomputable def impl_isAge.sp : CSpec := mkSpec impl_isAge.g T impl_isAge.i
theorem impl_isAge.ok : SpecOk Try.prog 66 impl_isAge.sp := mkSpec_ok hmix impl_isAge.gok tok impl_isAge.i Try.func66 (by kernel_rfl) (by kernel_rfl) (by kernel_rfl) (by kernel_rfl)
noncomputable def impl_isAge.f (x0 : Int) : Option (Bool) := run impl_isAge.g T impl_isAge.i [.v (.int .i64) x0]
theorem impl_isAge.f.eq (x0 : Int) : impl_isAge.f x0 =
  (impl_between.f x0 0 120).bind fun y1 =>
  some y1 := by kernel_rfl
noncomputable def impl_ageIn.g : Gam := [(66, impl_isAge.sp)]
theorem impl_ageIn.gok : GOk Try.prog impl_ageIn.g := (GOk.nil _).cons impl_isAge.ok
noncomputable def impl_ageIn.i : FI := ⟨Try.f59, body Try.f59, (.seq .nil (.seq .nil .nil)), [], [], [.res (.tmp 4) (.v (.int .i64)), .res (.tmp 5) (.v .bool)]⟩
noncomputable def impl_ageIn.sp : CSpec := mkSpec impl_ageIn.g T impl_ageIn.i
theorem impl_ageIn.ok : SpecOk Try.prog 59 impl_ageIn.sp := mkSpec_ok hmix impl_ageIn.gok tok impl_ageIn.i Try.func59 (by kernel_rfl) (by kernel_rfl) (by kernel_rfl) (by kernel_rfl)
noncomputable def impl_ageIn.f (x0 : Int) (x1 : Int) : Option (Int × Bool) := run impl_ageIn.g T impl_ageIn.i [.v (.int .i64) x0, .v (.int .i64) x1]
theorem impl_ageIn.f.eq (x0 : Int) (x1 : Int) : impl_ageIn.f x0 x1 =
  (impl_isAge.f (IntKind.i64.wrap (x1 - x0))).bind fun y3 =>
  some ((IntKind.i64.wrap (x1 - x0)), y3) := by kernel_rfl
noncomputable def impl_isRound.g : Gam := []
theorem impl_isRound.gok : GOk Try.prog impl_isRound.g := GOk.nil _
noncomputable def impl_isRound.i : FI := ⟨Try.f51, body Try.f51, (.seq .nil (.seq .nil .nil)), [], [], [.res (.tmp 4) (.v .bool)]⟩
noncomputable def impl_isRound.sp : CSpec := mkSpec impl_isRound.g T impl_isRound.i
theorem impl_isRound.ok : SpecOk Try.prog 51 impl_isRound.sp := mkSpec_ok hmix impl_isRound.gok tok impl_isRound.i Try.func51 (by kernel_rfl) (by kernel_rfl) (by kernel_rfl) (by kernel_rfl)
noncomputable def impl_isRound.f (x0 : Int) (x1 : Int) : Option (Bool) := run impl_isRound.g T impl_isRound.i [.v (.int .i64) x0, .v (.int .i64) x1]
theorem impl_isRound.f.eq (x0 : Int) (x1 : Int) : impl_isRound.f x0 x1 =
  if (decide (x0 > 0)) = true then
    if x1 = 0 then
      none
    else
      some (if true = true then (x0.tmod x1) == 0 else false)
  else
    some false := by kernel_rfl
noncomputable def impl_jubilees.g : Gam := [(59, impl_ageIn.sp), (51, impl_isRound.sp)]
theorem impl_jubilees.gok : GOk Try.prog impl_jubilees.g := ((GOk.nil _).cons impl_isRound.ok).cons impl_ageIn.ok
noncomputable def impl_jubilees.i : FI := ⟨Try.f42, body Try.f42, (.seq .nil (.seq .nil (.seq (.seq .nil (.blk (.loop [1, 2, 7, 13, 14, 15] [] (.seq .nil (.seq (.cond .nil .nil) (.seq (.blk (.seq .nil (.seq .nil (.seq .nil (.cond .nil .nil))))) .nil)))))) (.seq .nil .nil)))), [], [], [.res (.tmp 6) (.own 3 (.int .i64))]⟩
noncomputable def impl_jubilees.sp : CSpec := mkSpec impl_jubilees.g T impl_jubilees.i
theorem impl_jubilees.ok : SpecOk Try.prog 42 impl_jubilees.sp := mkSpec_ok hmix impl_jubilees.gok tok impl_jubilees.i Try.func42 (by kernel_rfl) (by kernel_rfl) (by kernel_rfl) (by kernel_rfl)
noncomputable def impl_jubilees.f (x0 : List Int) (x1 : Int) (x2 : Int) : Option (List Int) := run impl_jubilees.g T impl_jubilees.i [.v (.slice (.int .i64)) x0, .v (.int .i64) x1, .v (.int .i64) x2]
noncomputable def impl_jubilees.l0 (x1 : Int) (x2 : Int) (x7 : List Int) (x13 : List Int) (x14 : Int) (x15 : Int) : Option (List Int) := runAt impl_jubilees.g T impl_jubilees.i [true, true, false, true, false] [(1, .val (.int .i64) x1), (2, .val (.int .i64) x2), (7, .own 3 (.int .i64) x7), (13, .val (.slice (.int .i64)) x13), (14, .val (.int .i64) x14), (15, .val (.int .i64) x15)] []
theorem impl_jubilees.f.eq (x0 : List Int) (x1 : Int) (x2 : Int) : impl_jubilees.f x0 x1 x2 =
  impl_jubilees.l0 x1 x2 [] x0 (x0.length : Int) 0 := by kernel_rfl
theorem impl_jubilees.l0.eq (x1 : Int) (x2 : Int) (x7 : List Int) (x13 : List Int) (x14 : Int) (x15 : Int) : impl_jubilees.l0 x1 x2 x7 x13 x14 x15 =
  if (decide (x15 < x14)) = true then
    (rdI x13 x15).bind fun y2 =>
    (impl_ageIn.f y2 x1).bind fun y3 =>
    if y3.2 = true then
      (impl_isRound.f y3.1 x2).bind fun y4 =>
      if (if true = true then y4 else false) = true then
        (catI (appMax 8) x7 [x15]).bind fun y6 =>
        impl_jubilees.l0 x1 x2 y6 x13 x14 (IntKind.i64.wrap (x15 + 1))
      else
        impl_jubilees.l0 x1 x2 x7 x13 x14 (IntKind.i64.wrap (x15 + 1))
    else
      impl_jubilees.l0 x1 x2 x7 x13 x14 (IntKind.i64.wrap (x15 + 1))
  else
    some x7 := (runAt_loop _ _ _ _ _ _).trans (by kernel_rfl)
noncomputable def impl_calendar.g : Gam := [(15, impl_AreBirths.sp), (42, impl_jubilees.sp), (50, impl_isSpan.sp), (41, impl_isEvery.sp)]
theorem impl_calendar.gok : GOk Try.prog impl_calendar.g := ((((GOk.nil _).cons impl_isEvery.ok).cons impl_isSpan.ok).cons impl_jubilees.ok).cons impl_AreBirths.ok
noncomputable def impl_calendar.i : FI := ⟨Try.f34, body Try.f34, (.seq .nil (.seq (.cut [0, 1, 2, 3, 26] [] .nil (.cond (.seq .nil .nil) .nil)) (.seq .nil (.seq (.seq .nil (.blk (.loop [0, 2, 3, 10, 11] [] (.seq (.seq .nil (.cond .nil .nil)) (.seq (.blk (.seq .nil (.seq .nil (.cond .nil .nil)))) .nil))))) (.seq .nil .nil))))), [], [], [.res (.tmp 8) (.own 24 (.slice (.int .i64))), .res (.tmp 9) (.v .bool)]⟩
noncomputable def impl_calendar.sp : CSpec := mkSpec impl_calendar.g T impl_calendar.i
theorem impl_calendar.ok : SpecOk Try.prog 34 impl_calendar.sp := mkSpec_ok hmix impl_calendar.gok tok impl_calendar.i Try.func34 (by kernel_rfl) (by kernel_rfl) (by kernel_rfl) (by kernel_rfl)
noncomputable def impl_calendar.f (x0 : List Int) (x1 : Int) (x2 : Int) (x3 : Int) : Option ((List (List Int)) × Bool) := run impl_calendar.g T impl_calendar.i [.v (.slice (.int .i64)) x0, .v (.int .i64) x1, .v (.int .i64) x2, .v (.int .i64) x3]
noncomputable def impl_calendar.j0 (x0 : List Int) (x1 : Int) (x2 : Int) (x3 : Int) (x26 : Bool) : Option ((List (List Int)) × Bool) := runJ impl_calendar.g T impl_calendar.i [true, false, true] [(0, .val (.slice (.int .i64)) x0), (1, .val (.int .i64) x1), (2, .val (.int .i64) x2), (3, .val (.int .i64) x3), (26, .val .bool x26)] []
noncomputable def impl_calendar.l0 (x0 : List Int) (x2 : Int) (x3 : Int) (x10 : List (List Int)) (x11 : Int) : Option ((List (List Int)) × Bool) := runAt impl_calendar.g T impl_calendar.i [true, true, true, false, true, false] [(0, .val (.slice (.int .i64)) x0), (2, .val (.int .i64) x2), (3, .val (.int .i64) x3), (10, .own 24 (.slice (.int .i64)) x10), (11, .val (.int .i64) x11)] []
theorem impl_calendar.f.eq (x0 : List Int) (x1 : Int) (x2 : Int) (x3 : Int) : impl_calendar.f x0 x1 x2 x3 =
  (impl_AreBirths.f x0).bind fun y1 =>
  if (!y1) = true then
    impl_calendar.j0 x0 x1 x2 x3 true
  else
    (impl_isSpan.f x1 x2).bind fun y9 =>
    if (if false = true then true else !y9) = true then
      impl_calendar.j0 x0 x1 x2 x3 true
    else
      (impl_isEvery.f x3).bind fun y11 =>
      impl_calendar.j0 x0 x1 x2 x3 (if false = true then true else !y11) := by kernel_rfl
theorem impl_calendar.j0.eq (x0 : List Int) (x1 : Int) (x2 : Int) (x3 : Int) (x26 : Bool) : impl_calendar.j0 x0 x1 x2 x3 x26 =
  if x26 = true then
    some ([], false)
  else
    impl_calendar.l0 x0 x2 x3 [] x1 := (runJ_eq _ _ _ _ _ _).trans (by kernel_rfl)
theorem impl_calendar.l0.eq (x0 : List Int) (x2 : Int) (x3 : Int) (x10 : List (List Int)) (x11 : Int) : impl_calendar.l0 x0 x2 x3 x10 x11 =
  if (decide (x11 ≤ x2)) = true then
    (impl_jubilees.f x0 x11 x3).bind fun y2 =>
    if (decide ((y2.length : Int) > 0)) = true then
      (catI (appMax 8) [x11] y2).bind fun y5 =>
      (catI (appMax 24) x10 [y5]).bind fun y6 =>
      impl_calendar.l0 x0 x2 x3 y6 (IntKind.i64.wrap (x11 + 1))
    else
      impl_calendar.l0 x0 x2 x3 x10 (IntKind.i64.wrap (x11 + 1))
  else
    some (x10, true) := (runAt_loop _ _ _ _ _ _).trans (by kernel_rfl)
noncomputable def impl_CalendarOf.g : Gam := [(34, impl_calendar.sp)]
theorem impl_CalendarOf.gok : GOk Try.prog impl_CalendarOf.g := (GOk.nil _).cons impl_calendar.ok
noncomputable def impl_CalendarOf.i : FI := ⟨Try.f6, body Try.f6, (.seq .nil (.seq .nil .nil)), [], [], [.res (.tmp 8) (.own 24 (.slice (.int .i64))), .res (.tmp 9) (.v .bool)]⟩
noncomputable def impl_CalendarOf.sp : CSpec := mkSpec impl_CalendarOf.g T impl_CalendarOf.i
theorem impl_CalendarOf.ok : SpecOk Try.prog 6 impl_CalendarOf.sp := mkSpec_ok hmix impl_CalendarOf.gok tok impl_CalendarOf.i Try.func6 (by kernel_rfl) (by kernel_rfl) (by kernel_rfl) (by kernel_rfl)
noncomputable def impl_CalendarOf.f (x0 : List Int) (x1 : Int) (x2 : Int) (x3 : Int) : Option ((List (List Int)) × Bool) := run impl_CalendarOf.g T impl_CalendarOf.i [.v (.slice (.int .i64)) x0, .v (.int .i64) x1, .v (.int .i64) x2, .v (.int .i64) x3]
theorem impl_CalendarOf.f.eq (x0 : List Int) (x1 : Int) (x2 : Int) (x3 : Int) : impl_CalendarOf.f x0 x1 x2 x3 =
  (impl_calendar.f x0 x1 x2 x3).bind fun y1 =>
  some (y1.1, y1.2) := by kernel_rfl
noncomputable def spec_l1In.g : Gam := []
theorem spec_l1In.gok : GOk Try.prog spec_l1In.g := GOk.nil _
noncomputable def spec_l1In.i : FI := ⟨Try.f52, body Try.f52, (.seq .nil (.seq .nil .nil)), [], [], [.res (.tmp 6) (.v .bool)]⟩
noncomputable def spec_l1In.sp : CSpec := mkSpec spec_l1In.g T spec_l1In.i
theorem spec_l1In.ok : SpecOk Try.prog 52 spec_l1In.sp := mkSpec_ok hmix spec_l1In.gok tok spec_l1In.i Try.func52 (by kernel_rfl) (by kernel_rfl) (by kernel_rfl) (by kernel_rfl)
noncomputable def spec_l1In.f (x0 : Int) (x1 : Int) (x2 : Int) : Option (Bool) := run spec_l1In.g T spec_l1In.i [.v (.int .i64) x0, .v (.int .i64) x1, .v (.int .i64) x2]
theorem spec_l1In.f.eq (x0 : Int) (x1 : Int) (x2 : Int) : spec_l1In.f x0 x1 x2 =
  if (decide (x0 ≥ x1)) = true then
    some (if true = true then (decide (x0 ≤ x2)) else false)
  else
    some false := by kernel_rfl
noncomputable def spec_l1All.g : Gam := [(52, spec_l1In.sp)]
theorem spec_l1All.gok : GOk Try.prog spec_l1All.g := (GOk.nil _).cons spec_l1In.ok
noncomputable def spec_l1All.i : FI := ⟨Try.f58, body Try.f58, (.seq .nil (.seq (.seq .nil (.blk (.loop [1, 2, 9, 10, 11] [] (.seq .nil (.seq (.cond .nil .nil) (.seq (.blk (.seq .nil (.seq .nil (.cond (.seq .nil .nil) .nil)))) .nil)))))) (.seq .nil .nil))), [], [], [.res (.tmp 6) (.v .bool)]⟩
noncomputable def spec_l1All.sp : CSpec := mkSpec spec_l1All.g T spec_l1All.i
theorem spec_l1All.ok : SpecOk Try.prog 58 spec_l1All.sp := mkSpec_ok hmix spec_l1All.gok tok spec_l1All.i Try.func58 (by kernel_rfl) (by kernel_rfl) (by kernel_rfl) (by kernel_rfl)
noncomputable def spec_l1All.f (x0 : List Int) (x1 : Int) (x2 : Int) : Option (Bool) := run spec_l1All.g T spec_l1All.i [.v (.slice (.int .i64)) x0, .v (.int .i64) x1, .v (.int .i64) x2]
noncomputable def spec_l1All.l0 (x1 : Int) (x2 : Int) (x9 : List Int) (x10 : Int) (x11 : Int) : Option (Bool) := runAt spec_l1All.g T spec_l1All.i [true, false, true, false] [(1, .val (.int .i64) x1), (2, .val (.int .i64) x2), (9, .val (.slice (.int .i64)) x9), (10, .val (.int .i64) x10), (11, .val (.int .i64) x11)] []
theorem spec_l1All.f.eq (x0 : List Int) (x1 : Int) (x2 : Int) : spec_l1All.f x0 x1 x2 =
  spec_l1All.l0 x1 x2 x0 (x0.length : Int) 0 := by kernel_rfl
theorem spec_l1All.l0.eq (x1 : Int) (x2 : Int) (x9 : List Int) (x10 : Int) (x11 : Int) : spec_l1All.l0 x1 x2 x9 x10 x11 =
  if (decide (x11 < x10)) = true then
    (rdI x9 x11).bind fun y2 =>
    (spec_l1In.f y2 x1 x2).bind fun y3 =>
    if (!y3) = true then
      some false
    else
      spec_l1All.l0 x1 x2 x9 x10 (IntKind.i64.wrap (x11 + 1))
  else
    some true := (runAt_loop _ _ _ _ _ _).trans (by kernel_rfl)
noncomputable def spec_roBorn.g : Gam := [(52, spec_l1In.sp), (58, spec_l1All.sp)]
theorem spec_roBorn.gok : GOk Try.prog spec_roBorn.g := ((GOk.nil _).cons spec_l1All.ok).cons spec_l1In.ok
noncomputable def spec_roBorn.i : FI := ⟨Try.f39, body Try.f39, (.seq .nil (.seq .nil .nil)), [], [], [.res (.tmp 2) (.v .bool)]⟩
noncomputable def spec_roBorn.sp : CSpec := mkSpec spec_roBorn.g T spec_roBorn.i
theorem spec_roBorn.ok : SpecOk Try.prog 39 spec_roBorn.sp := mkSpec_ok hmix spec_roBorn.gok tok spec_roBorn.i Try.func39 (by kernel_rfl) (by kernel_rfl) (by kernel_rfl) (by kernel_rfl)
noncomputable def spec_roBorn.f (x0 : List Int) : Option (Bool) := run spec_roBorn.g T spec_roBorn.i [.v (.slice (.int .i64)) x0]
theorem spec_roBorn.f.eq (x0 : List Int) : spec_roBorn.f x0 =
  (spec_l1In.f (x0.length : Int) 1 10).bind fun y2 =>
  if y2 = true then
    (spec_l1All.f x0 0 2900).bind fun y3 =>
    some (if true = true then y3 else false)
  else
    some false := by kernel_rfl
noncomputable def spec_roSpan.g : Gam := [(52, spec_l1In.sp)]
theorem spec_roSpan.gok : GOk Try.prog spec_roSpan.g := (GOk.nil _).cons spec_l1In.ok
noncomputable def spec_roSpan.i : FI := ⟨Try.f53, body Try.f53, (.seq .nil (.seq .nil .nil)), [], [], [.res (.tmp 4) (.v .bool)]⟩
noncomputable def spec_roSpan.sp : CSpec := mkSpec spec_roSpan.g T spec_roSpan.i
theorem spec_roSpan.ok : SpecOk Try.prog 53 spec_roSpan.sp := mkSpec_ok hmix spec_roSpan.gok tok spec_roSpan.i Try.func53 (by kernel_rfl) (by kernel_rfl) (by kernel_rfl) (by kernel_rfl)
noncomputable def spec_roSpan.f (x0 : Int) (x1 : Int) : Option (Bool) := run spec_roSpan.g T spec_roSpan.i [.v (.int .i64) x0, .v (.int .i64) x1]
theorem spec_roSpan.f.eq (x0 : Int) (x1 : Int) : spec_roSpan.f x0 x1 =
  (spec_l1In.f x1 0 3000).bind fun y1 =>
  if y1 = true then
    (spec_l1In.f x0 0 x1).bind fun y2 =>
    if (if true = true then y2 else false) = true then
      some (if true = true then (decide ((IntKind.i64.wrap (x1 - x0)) < 200)) else false)
    else
      some false
  else
    some false := by kernel_rfl
noncomputable def spec_roEvery.g : Gam := [(52, spec_l1In.sp)]
theorem spec_roEvery.gok : GOk Try.prog spec_roEvery.g := (GOk.nil _).cons spec_l1In.ok
noncomputable def spec_roEvery.i : FI := ⟨Try.f45, body Try.f45, (.seq .nil (.seq .nil .nil)), [], [], [.res (.tmp 2) (.v .bool)]⟩
noncomputable def spec_roEvery.sp : CSpec := mkSpec spec_roEvery.g T spec_roEvery.i
theorem spec_roEvery.ok : SpecOk Try.prog 45 spec_roEvery.sp := mkSpec_ok hmix spec_roEvery.gok tok spec_roEvery.i Try.func45 (by kernel_rfl) (by kernel_rfl) (by kernel_rfl) (by kernel_rfl)
noncomputable def spec_roEvery.f (x0 : Int) : Option (Bool) := run spec_roEvery.g T spec_roEvery.i [.v (.int .i64) x0]
theorem spec_roEvery.f.eq (x0 : Int) : spec_roEvery.f x0 =
  (spec_l1In.f x0 1 100).bind fun y1 =>
  some y1 := by kernel_rfl
noncomputable def spec_roAll.g : Gam := [(39, spec_roBorn.sp), (53, spec_roSpan.sp), (45, spec_roEvery.sp)]
theorem spec_roAll.gok : GOk Try.prog spec_roAll.g := (((GOk.nil _).cons spec_roEvery.ok).cons spec_roSpan.ok).cons spec_roBorn.ok
noncomputable def spec_roAll.i : FI := ⟨Try.f35, body Try.f35, (.seq .nil (.seq .nil .nil)), [], [], [.res (.tmp 8) (.v .bool)]⟩
noncomputable def spec_roAll.sp : CSpec := mkSpec spec_roAll.g T spec_roAll.i
theorem spec_roAll.ok : SpecOk Try.prog 35 spec_roAll.sp := mkSpec_ok hmix spec_roAll.gok tok spec_roAll.i Try.func35 (by kernel_rfl) (by kernel_rfl) (by kernel_rfl) (by kernel_rfl)
noncomputable def spec_roAll.f (x0 : List Int) (x1 : Int) (x2 : Int) (x3 : Int) : Option (Bool) := run spec_roAll.g T spec_roAll.i [.v (.slice (.int .i64)) x0, .v (.int .i64) x1, .v (.int .i64) x2, .v (.int .i64) x3]
theorem spec_roAll.f.eq (x0 : List Int) (x1 : Int) (x2 : Int) (x3 : Int) : spec_roAll.f x0 x1 x2 x3 =
  (spec_roBorn.f x0).bind fun y1 =>
  if y1 = true then
    (spec_roSpan.f x1 x2).bind fun y2 =>
    if (if true = true then y2 else false) = true then
      (spec_roEvery.f x3).bind fun y4 =>
      some (if true = true then y4 else false)
    else
      some false
  else
    some false := by kernel_rfl
noncomputable def spec_roAge.g : Gam := [(52, spec_l1In.sp)]
theorem spec_roAge.gok : GOk Try.prog spec_roAge.g := (GOk.nil _).cons spec_l1In.ok
noncomputable def spec_roAge.i : FI := ⟨Try.f55, body Try.f55, (.seq .nil (.seq (.seq .nil (.cond (.seq .nil .nil) .nil)) (.seq .nil .nil))), [], [], [.res (.tmp 4) (.v (.int .i64))]⟩
noncomputable def spec_roAge.sp : CSpec := mkSpec spec_roAge.g T spec_roAge.i
theorem spec_roAge.ok : SpecOk Try.prog 55 spec_roAge.sp := mkSpec_ok hmix spec_roAge.gok tok spec_roAge.i Try.func55 (by kernel_rfl) (by kernel_rfl) (by kernel_rfl) (by kernel_rfl)
noncomputable def spec_roAge.f (x0 : Int) (x1 : Int) : Option (Int) := run spec_roAge.g T spec_roAge.i [.v (.int .i64) x0, .v (.int .i64) x1]
theorem spec_roAge.f.eq (x0 : Int) (x1 : Int) : spec_roAge.f x0 x1 =
  (spec_l1In.f (IntKind.i64.wrap (x1 - x0)) 0 120).bind fun y2 =>
  if (!y2) = true then
    some (-1)
  else
    some (IntKind.i64.wrap (x1 - x0)) := by kernel_rfl
noncomputable def spec_roRound.g : Gam := []
theorem spec_roRound.gok : GOk Try.prog spec_roRound.g := GOk.nil _
noncomputable def spec_roRound.i : FI := ⟨Try.f54, body Try.f54, (.seq .nil (.seq .nil .nil)), [], [], [.res (.tmp 4) (.v .bool)]⟩
noncomputable def spec_roRound.sp : CSpec := mkSpec spec_roRound.g T spec_roRound.i
theorem spec_roRound.ok : SpecOk Try.prog 54 spec_roRound.sp := mkSpec_ok hmix spec_roRound.gok tok spec_roRound.i Try.func54 (by kernel_rfl) (by kernel_rfl) (by kernel_rfl) (by kernel_rfl)
noncomputable def spec_roRound.f (x0 : Int) (x1 : Int) : Option (Bool) := run spec_roRound.g T spec_roRound.i [.v (.int .i64) x0, .v (.int .i64) x1]
theorem spec_roRound.f.eq (x0 : Int) (x1 : Int) : spec_roRound.f x0 x1 =
  if (decide (x0 > 0)) = true then
    if x1 = 0 then
      none
    else
      some (if true = true then (x0.tmod x1) == 0 else false)
  else
    some false := by kernel_rfl
noncomputable def spec_roIn.g : Gam := [(55, spec_roAge.sp), (54, spec_roRound.sp)]
theorem spec_roIn.gok : GOk Try.prog spec_roIn.g := ((GOk.nil _).cons spec_roRound.ok).cons spec_roAge.ok
noncomputable def spec_roIn.i : FI := ⟨Try.f36, body Try.f36, (.seq .nil (.seq .nil (.seq (.seq .nil (.blk (.loop [1, 2, 7, 10, 11, 12] [] (.seq .nil (.seq (.cond .nil .nil) (.seq (.blk (.seq .nil (.seq .nil (.cond .nil .nil)))) .nil)))))) (.seq .nil .nil)))), [], [], [.res (.tmp 6) (.own 3 (.int .i64))]⟩
noncomputable def spec_roIn.sp : CSpec := mkSpec spec_roIn.g T spec_roIn.i
theorem spec_roIn.ok : SpecOk Try.prog 36 spec_roIn.sp := mkSpec_ok hmix spec_roIn.gok tok spec_roIn.i Try.func36 (by kernel_rfl) (by kernel_rfl) (by kernel_rfl) (by kernel_rfl)
noncomputable def spec_roIn.f (x0 : List Int) (x1 : Int) (x2 : Int) : Option (List Int) := run spec_roIn.g T spec_roIn.i [.v (.slice (.int .i64)) x0, .v (.int .i64) x1, .v (.int .i64) x2]
noncomputable def spec_roIn.l0 (x1 : Int) (x2 : Int) (x7 : List Int) (x10 : List Int) (x11 : Int) (x12 : Int) : Option (List Int) := runAt spec_roIn.g T spec_roIn.i [true, true, false, true, false] [(1, .val (.int .i64) x1), (2, .val (.int .i64) x2), (7, .own 3 (.int .i64) x7), (10, .val (.slice (.int .i64)) x10), (11, .val (.int .i64) x11), (12, .val (.int .i64) x12)] []
theorem spec_roIn.f.eq (x0 : List Int) (x1 : Int) (x2 : Int) : spec_roIn.f x0 x1 x2 =
  spec_roIn.l0 x1 x2 [] x0 (x0.length : Int) 0 := by kernel_rfl
theorem spec_roIn.l0.eq (x1 : Int) (x2 : Int) (x7 : List Int) (x10 : List Int) (x11 : Int) (x12 : Int) : spec_roIn.l0 x1 x2 x7 x10 x11 x12 =
  if (decide (x12 < x11)) = true then
    (rdI x10 x12).bind fun y2 =>
    (spec_roAge.f y2 x1).bind fun y3 =>
    (spec_roRound.f y3 x2).bind fun y4 =>
    if y4 = true then
      (catI (appMax 8) x7 [x12]).bind fun y5 =>
      spec_roIn.l0 x1 x2 y5 x10 x11 (IntKind.i64.wrap (x12 + 1))
    else
      spec_roIn.l0 x1 x2 x7 x10 x11 (IntKind.i64.wrap (x12 + 1))
  else
    some x7 := (runAt_loop _ _ _ _ _ _).trans (by kernel_rfl)
noncomputable def spec_CalendarOf.g : Gam := [(35, spec_roAll.sp), (36, spec_roIn.sp)]
theorem spec_CalendarOf.gok : GOk Try.prog spec_CalendarOf.g := ((GOk.nil _).cons spec_roIn.ok).cons spec_roAll.ok
noncomputable def spec_CalendarOf.i : FI := ⟨Try.f7, body Try.f7, (.seq .nil (.seq (.seq .nil (.cond (.seq .nil .nil) .nil)) (.seq .nil (.seq (.seq .nil (.blk (.loop [0, 2, 3, 10, 11] [] (.seq (.seq .nil (.cond .nil .nil)) (.seq (.blk (.seq .nil (.seq .nil (.cond .nil .nil)))) .nil))))) (.seq .nil .nil))))), [], [], [.res (.tmp 8) (.own 24 (.slice (.int .i64))), .res (.tmp 9) (.v .bool)]⟩
noncomputable def spec_CalendarOf.sp : CSpec := mkSpec spec_CalendarOf.g T spec_CalendarOf.i
theorem spec_CalendarOf.ok : SpecOk Try.prog 7 spec_CalendarOf.sp := mkSpec_ok hmix spec_CalendarOf.gok tok spec_CalendarOf.i Try.func7 (by kernel_rfl) (by kernel_rfl) (by kernel_rfl) (by kernel_rfl)
noncomputable def spec_CalendarOf.f (x0 : List Int) (x1 : Int) (x2 : Int) (x3 : Int) : Option ((List (List Int)) × Bool) := run spec_CalendarOf.g T spec_CalendarOf.i [.v (.slice (.int .i64)) x0, .v (.int .i64) x1, .v (.int .i64) x2, .v (.int .i64) x3]
noncomputable def spec_CalendarOf.l0 (x0 : List Int) (x2 : Int) (x3 : Int) (x10 : List (List Int)) (x11 : Int) : Option ((List (List Int)) × Bool) := runAt spec_CalendarOf.g T spec_CalendarOf.i [true, true, true, false, true, false] [(0, .val (.slice (.int .i64)) x0), (2, .val (.int .i64) x2), (3, .val (.int .i64) x3), (10, .own 24 (.slice (.int .i64)) x10), (11, .val (.int .i64) x11)] []
theorem spec_CalendarOf.f.eq (x0 : List Int) (x1 : Int) (x2 : Int) (x3 : Int) : spec_CalendarOf.f x0 x1 x2 x3 =
  (spec_roAll.f x0 x1 x2 x3).bind fun y1 =>
  if (!y1) = true then
    some ([], false)
  else
    spec_CalendarOf.l0 x0 x2 x3 [] x1 := by kernel_rfl
theorem spec_CalendarOf.l0.eq (x0 : List Int) (x2 : Int) (x3 : Int) (x10 : List (List Int)) (x11 : Int) : spec_CalendarOf.l0 x0 x2 x3 x10 x11 =
  if (decide (x11 ≤ x2)) = true then
    (spec_roIn.f x0 x11 x3).bind fun y2 =>
    if (decide ((y2.length : Int) > 0)) = true then
      (catI (appMax 8) [x11] y2).bind fun y5 =>
      (catI (appMax 24) x10 [y5]).bind fun y6 =>
      spec_CalendarOf.l0 x0 x2 x3 y6 (IntKind.i64.wrap (x11 + 1))
    else
      spec_CalendarOf.l0 x0 x2 x3 x10 (IntKind.i64.wrap (x11 + 1))
  else
    some (x10, true) := (runAt_loop _ _ _ _ _ _).trans (by kernel_rfl)
noncomputable def impl_CountJubilees.g : Gam := [(34, impl_calendar.sp)]
theorem impl_CountJubilees.gok : GOk Try.prog impl_CountJubilees.g := (GOk.nil _).cons impl_calendar.ok
noncomputable def impl_CountJubilees.i : FI := ⟨Try.f8, body Try.f8, (.seq .nil (.seq .nil (.seq .nil (.seq (.seq .nil (.blk (.loop [10, 11, 12, 23, 24, 25] [] (.seq .nil (.seq (.cond .nil .nil) (.seq (.blk (.seq .nil .nil)) .nil)))))) (.seq .nil .nil))))), [], [], [.res (.tmp 8) (.v (.int .i64)), .res (.tmp 9) (.v .bool)]⟩
noncomputable def impl_CountJubilees.sp : CSpec := mkSpec impl_CountJubilees.g T impl_CountJubilees.i
theorem impl_CountJubilees.ok : SpecOk Try.prog 8 impl_CountJubilees.sp := mkSpec_ok hmix impl_CountJubilees.gok tok impl_CountJubilees.i Try.func8 (by kernel_rfl) (by kernel_rfl) (by kernel_rfl) (by kernel_rfl)
noncomputable def impl_CountJubilees.f (x0 : List Int) (x1 : Int) (x2 : Int) (x3 : Int) : Option (Int × Bool) := run impl_CountJubilees.g T impl_CountJubilees.i [.v (.slice (.int .i64)) x0, .v (.int .i64) x1, .v (.int .i64) x2, .v (.int .i64) x3]
noncomputable def impl_CountJubilees.l0 (x10 : List (List Int)) (x11 : Bool) (x12 : Int) (x24 : Int) (x25 : Int) : Option (Int × Bool) := runAt impl_CountJubilees.g T impl_CountJubilees.i [true, true, true, false, true, false] [(10, .own 24 (.slice (.int .i64)) x10), (11, .val .bool x11), (12, .val (.int .i64) x12), (23, .alias 10), (24, .val (.int .i64) x24), (25, .val (.int .i64) x25)] []
theorem impl_CountJubilees.f.eq (x0 : List Int) (x1 : Int) (x2 : Int) (x3 : Int) : impl_CountJubilees.f x0 x1 x2 x3 =
  (impl_calendar.f x0 x1 x2 x3).bind fun y1 =>
  impl_CountJubilees.l0 y1.1 y1.2 0 (y1.1.length : Int) 0 := by kernel_rfl
theorem impl_CountJubilees.l0.eq (x10 : List (List Int)) (x11 : Bool) (x12 : Int) (x24 : Int) (x25 : Int) : impl_CountJubilees.l0 x10 x11 x12 x24 x25 =
  if (decide (x25 < x24)) = true then
    (rdI x10 x25).bind fun y2 =>
    impl_CountJubilees.l0 x10 x11 (IntKind.i64.wrap (x12 + (IntKind.i64.wrap ((y2.length : Int) - 1)))) x24 (IntKind.i64.wrap (x25 + 1))
  else
    some (x12, x11) := (runAt_loop _ _ _ _ _ _).trans (by kernel_rfl)
noncomputable def spec_CountJubilees.g : Gam := [(35, spec_roAll.sp), (36, spec_roIn.sp)]
theorem spec_CountJubilees.gok : GOk Try.prog spec_CountJubilees.g := ((GOk.nil _).cons spec_roIn.ok).cons spec_roAll.ok
noncomputable def spec_CountJubilees.i : FI := ⟨Try.f9, body Try.f9, (.seq .nil (.seq (.seq .nil (.cond (.seq .nil .nil) .nil)) (.seq .nil (.seq (.seq .nil (.blk (.loop [0, 2, 3, 10, 11] [] (.seq (.seq .nil (.cond .nil .nil)) (.seq (.blk .nil) .nil))))) (.seq .nil .nil))))), [], [], [.res (.tmp 8) (.v (.int .i64)), .res (.tmp 9) (.v .bool)]⟩
noncomputable def spec_CountJubilees.sp : CSpec := mkSpec spec_CountJubilees.g T spec_CountJubilees.i
theorem spec_CountJubilees.ok : SpecOk Try.prog 9 spec_CountJubilees.sp := mkSpec_ok hmix spec_CountJubilees.gok tok spec_CountJubilees.i Try.func9 (by kernel_rfl) (by kernel_rfl) (by kernel_rfl) (by kernel_rfl)
noncomputable def spec_CountJubilees.f (x0 : List Int) (x1 : Int) (x2 : Int) (x3 : Int) : Option (Int × Bool) := run spec_CountJubilees.g T spec_CountJubilees.i [.v (.slice (.int .i64)) x0, .v (.int .i64) x1, .v (.int .i64) x2, .v (.int .i64) x3]
noncomputable def spec_CountJubilees.l0 (x0 : List Int) (x2 : Int) (x3 : Int) (x10 : Int) (x11 : Int) : Option (Int × Bool) := runAt spec_CountJubilees.g T spec_CountJubilees.i [true, true, true, false, true, false] [(0, .val (.slice (.int .i64)) x0), (2, .val (.int .i64) x2), (3, .val (.int .i64) x3), (10, .val (.int .i64) x10), (11, .val (.int .i64) x11)] []
theorem spec_CountJubilees.f.eq (x0 : List Int) (x1 : Int) (x2 : Int) (x3 : Int) : spec_CountJubilees.f x0 x1 x2 x3 =
  (spec_roAll.f x0 x1 x2 x3).bind fun y1 =>
  if (!y1) = true then
    some (0, false)
  else
    spec_CountJubilees.l0 x0 x2 x3 0 x1 := by kernel_rfl
theorem spec_CountJubilees.l0.eq (x0 : List Int) (x2 : Int) (x3 : Int) (x10 : Int) (x11 : Int) : spec_CountJubilees.l0 x0 x2 x3 x10 x11 =
  if (decide (x11 ≤ x2)) = true then
    (spec_roIn.f x0 x11 x3).bind fun y2 =>
    spec_CountJubilees.l0 x0 x2 x3 (IntKind.i64.wrap (x10 + (y2.length : Int))) (IntKind.i64.wrap (x11 + 1))
  else
    some (x10, true) := (runAt_loop _ _ _ _ _ _).trans (by kernel_rfl)
noncomputable def impl_MostJubilees.g : Gam := [(34, impl_calendar.sp)]
theorem impl_MostJubilees.gok : GOk Try.prog impl_MostJubilees.g := (GOk.nil _).cons impl_calendar.ok
noncomputable def impl_MostJubilees.i : FI := ⟨Try.f10, body Try.f10, (.seq .nil (.seq .nil (.seq (.seq .nil (.cond (.seq .nil .nil) .nil)) (.seq .nil (.seq (.seq .nil (.blk (.loop [11, 13, 14, 28, 29, 30] [] (.seq .nil (.seq (.cond .nil .nil) (.seq (.blk (.seq .nil (.seq .nil (.cond .nil .nil)))) .nil)))))) (.seq .nil .nil)))))), [], [], [.res (.tmp 8) (.v (.int .i64)), .res (.tmp 9) (.v (.int .i64)), .res (.tmp 10) (.v .bool)]⟩
noncomputable def impl_MostJubilees.sp : CSpec := mkSpec impl_MostJubilees.g T impl_MostJubilees.i
theorem impl_MostJubilees.ok : SpecOk Try.prog 10 impl_MostJubilees.sp := mkSpec_ok hmix impl_MostJubilees.gok tok impl_MostJubilees.i Try.func10 (by kernel_rfl) (by kernel_rfl) (by kernel_rfl) (by kernel_rfl)
noncomputable def impl_MostJubilees.f (x0 : List Int) (x1 : Int) (x2 : Int) (x3 : Int) : Option (Int × Int × Bool) := run impl_MostJubilees.g T impl_MostJubilees.i [.v (.slice (.int .i64)) x0, .v (.int .i64) x1, .v (.int .i64) x2, .v (.int .i64) x3]
noncomputable def impl_MostJubilees.l0 (x11 : List (List Int)) (x13 : Int) (x14 : Int) (x29 : Int) (x30 : Int) : Option (Int × Int × Bool) := runAt impl_MostJubilees.g T impl_MostJubilees.i [true, true, true, true, false, true, false] [(11, .own 24 (.slice (.int .i64)) x11), (13, .val (.int .i64) x13), (14, .val (.int .i64) x14), (28, .alias 11), (29, .val (.int .i64) x29), (30, .val (.int .i64) x30)] []
theorem impl_MostJubilees.f.eq (x0 : List Int) (x1 : Int) (x2 : Int) (x3 : Int) : impl_MostJubilees.f x0 x1 x2 x3 =
  (impl_calendar.f x0 x1 x2 x3).bind fun y1 =>
  if (!y1.2) = true then
    some (0, 0, false)
  else
    impl_MostJubilees.l0 y1.1 x1 0 (y1.1.length : Int) 0 := by kernel_rfl
theorem impl_MostJubilees.l0.eq (x11 : List (List Int)) (x13 : Int) (x14 : Int) (x29 : Int) (x30 : Int) : impl_MostJubilees.l0 x11 x13 x14 x29 x30 =
  if (decide (x30 < x29)) = true then
    (rdI x11 x30).bind fun y2 =>
    if (decide ((IntKind.i64.wrap ((y2.length : Int) - 1)) > x14)) = true then
      (rdI y2 0).bind fun y6 =>
      impl_MostJubilees.l0 x11 y6 (IntKind.i64.wrap ((y2.length : Int) - 1)) x29 (IntKind.i64.wrap (x30 + 1))
    else
      impl_MostJubilees.l0 x11 x13 x14 x29 (IntKind.i64.wrap (x30 + 1))
  else
    some (x13, x14, true) := (runAt_loop _ _ _ _ _ _).trans (by kernel_rfl)
end Go.Proofs.Ytkpoidakicgfbaa.S
