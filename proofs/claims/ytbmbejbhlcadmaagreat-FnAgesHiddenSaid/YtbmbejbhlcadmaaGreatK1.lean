/- What the functions of this seat come to, over plain values. No condition. -/
import Derived.Test.YtbmbejbhlcadmaaGreatK0
namespace Go.Proofs.YtbmbejbhlcadmaaGreat.S
open Go Go.Proofs.YtbmbejbhlcadmaaGreat.Eng Go.Proofs
set_option maxRecDepth 1000000
set_option linter.unusedVariables false
noncomputable def spec_kiCount.g : Gam := [(98, spec_kiIs.sp)]
theorem spec_kiCount.gok : GOkI Tryz.prog I spec_kiCount.g := (GOkI.nil _ _).cons spec_kiIs.ok
noncomputable def spec_kiCount.i : FI := ⟨Tryz.f87, body Tryz.f87, (.seq .nil (.seq .nil (.seq (.seq .nil (.blk (.loop [1, 2, 7, 10, 11, 12] [] (.seq .nil (.seq (.cond .nil .nil) (.seq (.blk (.seq .nil (.seq .nil (.cond .nil .nil)))) .nil)))))) (.seq .nil .nil)))), [], [], [.res (.tmp 6) (.v (.int .i64))]⟩
noncomputable def spec_kiCount.sp : CSpec := mkSpec spec_kiCount.g T spec_kiCount.i
theorem spec_kiCount.ok : SpecOk Tryz.prog I 87 spec_kiCount.sp := mkSpec_ok hmix hI spec_kiCount.gok tok spec_kiCount.i Tryz.func87 (by kernel_rfl) (by kernel_rfl) (by kernel_rfl) (by kernel_rfl)
noncomputable def spec_kiCount.f (x0 : List Int) (x1 : Int) (x2 : List UInt8) : Option (Int) := run spec_kiCount.g T spec_kiCount.i [.v (.slice (.int .i64)) x0, .v (.int .i64) x1, .v .str x2]
noncomputable def spec_kiCount.l0 (x1 : Int) (x2 : List UInt8) (x7 : Int) (x10 : List Int) (x11 : Int) (x12 : Int) : Option (Int) := runAt spec_kiCount.g T spec_kiCount.i [true, true, false, true, false] [(1, .val (.int .i64) x1), (2, .val .str x2), (7, .val (.int .i64) x7), (10, .val (.slice (.int .i64)) x10), (11, .val (.int .i64) x11), (12, .val (.int .i64) x12)] []
theorem spec_kiCount.f.eq (x0 : List Int) (x1 : Int) (x2 : List UInt8) : spec_kiCount.f x0 x1 x2 =
  spec_kiCount.l0 x1 x2 0 x0 (x0.length : Int) 0 := by kernel_rfl
theorem spec_kiCount.l0.eq (x1 : Int) (x2 : List UInt8) (x7 : Int) (x10 : List Int) (x11 : Int) (x12 : Int) : spec_kiCount.l0 x1 x2 x7 x10 x11 x12 =
  if (decide (x12 < x11)) = true then
    (rdI x10 x12).bind fun y2 =>
    (spec_kiIs.f (IntKind.i64.wrap (y2 + x1)) x2).bind fun y4 =>
    if y4 = true then
      spec_kiCount.l0 x1 x2 (IntKind.i64.wrap (x7 + 1)) x10 x11 (IntKind.i64.wrap (x12 + 1))
    else
      spec_kiCount.l0 x1 x2 x7 x10 x11 (IntKind.i64.wrap (x12 + 1))
  else
    some x7 := (runAt_loop _ _ _ _ _ _).trans (by kernel_rfl)
noncomputable def spec_pzValue.g : Gam := [(84, spec_agSum.sp), (87, spec_kiCount.sp)]
theorem spec_pzValue.gok : GOkI Tryz.prog I spec_pzValue.g := ((GOkI.nil _ _).cons spec_kiCount.ok).cons spec_agSum.ok
noncomputable def spec_pzValue.i : FI := ⟨Tryz.f72, body Tryz.f72, (.seq .nil (.seq .nil (.seq (.seq .nil (.blk (.seq .nil (.cond .nil (.seq .nil (.cond .nil (.seq .nil (.cond (.seq .nil (.seq .nil (.blk (.loop [7, 37, 38, 39] [] (.seq .nil (.seq (.cond .nil .nil) (.seq (.blk (.seq .nil .nil)) .nil))))))) (.seq .nil (.cond (.seq .nil (.cond .nil .nil)) (.seq .nil (.cond .nil (.seq .nil (.cond .nil .nil)))))))))))))) (.seq .nil .nil)))), [], [], [.res (.tmp 6) (.v (.int .i64))]⟩
noncomputable def spec_pzValue.sp : CSpec := mkSpec spec_pzValue.g T spec_pzValue.i
theorem spec_pzValue.ok : SpecOk Tryz.prog I 72 spec_pzValue.sp := mkSpec_ok hmix hI spec_pzValue.gok tok spec_pzValue.i Tryz.func72 (by kernel_rfl) (by kernel_rfl) (by kernel_rfl) (by kernel_rfl)
noncomputable def spec_pzValue.f (x0 : Int) (x1 : Int) (x2 : List Int) : Option (Int) := run spec_pzValue.g T spec_pzValue.i [.v (.int .i64) x0, .v (.int .i64) x1, .v (.slice (.int .i64)) x2]
noncomputable def spec_pzValue.l0 (x7 : Int) (x37 : List Int) (x38 : Int) (x39 : Int) : Option (Int) := runAt spec_pzValue.g T spec_pzValue.i [true, true, false, true, false, true, true, true, true, true, false, true, true, false] [(7, .val (.int .i64) x7), (37, .val (.slice (.int .i64)) x37), (38, .val (.int .i64) x38), (39, .val (.int .i64) x39)] []
theorem spec_pzValue.f.eq (x0 : Int) (x1 : Int) (x2 : List Int) : spec_pzValue.f x0 x1 x2 =
  if (x0 == 0) = true then
    (spec_agSum.f x2).bind fun y1 =>
    some y1
  else
    if (x0 == 1) = true then
      (rdI x2 x1).bind fun y2 =>
      some y2
    else
      if (x0 == 2) = true then
        spec_pzValue.l0 1 x2 (x2.length : Int) 0
      else
        if (x0 == 3) = true then
          (rdI x2 x1).bind fun y5 =>
          if (x2.length : Int) = 0 then
            none
          else
            (rdI x2 ((IntKind.i64.wrap (x1 + 1)).tmod (x2.length : Int))).bind fun y9 =>
            if (decide (y5 > y9)) = true then
              some 1
            else
              some 0
        else
          if (x0 == 4) = true then
            (spec_kiCount.f x2 0 [112]).bind fun y11 =>
            some y11
          else
            (rdI x2 x1).bind fun y12 =>
            if (x2.length : Int) = 0 then
              none
            else
              (rdI x2 ((IntKind.i64.wrap (x1 + 1)).tmod (x2.length : Int))).bind fun y16 =>
              if y16 = 0 then
                none
              else
                if ((y12.tmod y16) == 0) = true then
                  some 1
                else
                  some 0 := by kernel_rfl
theorem spec_pzValue.l0.eq (x7 : Int) (x37 : List Int) (x38 : Int) (x39 : Int) : spec_pzValue.l0 x7 x37 x38 x39 =
  if (decide (x39 < x38)) = true then
    (rdI x37 x39).bind fun y2 =>
    spec_pzValue.l0 (IntKind.i64.wrap (x7 * y2)) x37 x38 (IntKind.i64.wrap (x39 + 1))
  else
    some x7 := (runAt_loop _ _ _ _ _ _).trans (by kernel_rfl)
noncomputable def spec_pzOf.g : Gam := [(72, spec_pzValue.sp)]
theorem spec_pzOf.gok : GOkI Tryz.prog I spec_pzOf.g := (GOkI.nil _ _).cons spec_pzValue.ok
noncomputable def spec_pzOf.i : FI := ⟨Tryz.f43, body Tryz.f43, (.seq .nil (.seq .nil (.seq (.seq .nil (.blk (.seq (.seq .nil (.cond .nil (.seq .nil (.cond .nil .nil)))) (.cond .nil .nil)))) (.seq .nil .nil)))), [], [], [.res (.cell 6 38) (.v (.pair (.int .i64) (.pair (.int .i64) (.int .i64))))]⟩
noncomputable def spec_pzOf.sp : CSpec := mkSpec spec_pzOf.g T spec_pzOf.i
theorem spec_pzOf.ok : SpecOk Tryz.prog I 43 spec_pzOf.sp := mkSpec_ok hmix hI spec_pzOf.gok tok spec_pzOf.i Tryz.func43 (by kernel_rfl) (by kernel_rfl) (by kernel_rfl) (by kernel_rfl)
noncomputable def spec_pzOf.f (x0 : Int) (x1 : Int) (x2 : List Int) : Option (Int × Int × Int) := run spec_pzOf.g T spec_pzOf.i [.v (.int .i64) x0, .v (.int .i64) x1, .v (.slice (.int .i64)) x2]
theorem spec_pzOf.f.eq (x0 : Int) (x1 : Int) (x2 : List Int) : spec_pzOf.f x0 x1 x2 =
  if (x0 == 1) = true then
    if (x0 == 1) = true then
      if (x2.length : Int) = 0 then
        none
      else
        let y2 := x1.tmod (x2.length : Int)
        (spec_pzValue.f x0 y2 x2).bind fun y3 =>
        some (x0, y2, y3)
    else
      (spec_pzValue.f x0 0 x2).bind fun y4 =>
      some (x0, 0, y4)
  else
    if (x0 == 3) = true then
      if (x0 == 3) = true then
        if (x2.length : Int) = 0 then
          none
        else
          let y6 := x1.tmod (x2.length : Int)
          (spec_pzValue.f x0 y6 x2).bind fun y7 =>
          some (x0, y6, y7)
      else
        (spec_pzValue.f x0 0 x2).bind fun y8 =>
        some (x0, 0, y8)
    else
      if (x0 == 5) = true then
        if (x2.length : Int) = 0 then
          none
        else
          let y10 := x1.tmod (x2.length : Int)
          (spec_pzValue.f x0 y10 x2).bind fun y11 =>
          some (x0, y10, y11)
      else
        (spec_pzValue.f x0 0 x2).bind fun y12 =>
        some (x0, 0, y12) := by kernel_rfl
noncomputable def spec_MakePuzzle.g : Gam := [(40, spec_pzHidden.sp), (42, spec_pzNext.sp), (43, spec_pzOf.sp), (41, spec_l1In.sp)]
theorem spec_MakePuzzle.gok : GOkI Tryz.prog I spec_MakePuzzle.g := ((((GOkI.nil _ _).cons spec_l1In.ok).cons spec_pzOf.ok).cons spec_pzNext.ok).cons spec_pzHidden.ok
noncomputable def spec_MakePuzzle.i : FI := ⟨Tryz.f7, body Tryz.f7, (.seq .nil (.seq (.cut [0, 1, 2, 6, 23] [6] .nil (.cond (.seq .nil .nil) .nil)) (.seq .nil (.seq .nil (.seq (.blk (.loop [0, 1, 6, 8, 9] [6, 8] (.seq (.seq .nil (.cond .nil .nil)) (.seq (.blk (.seq .nil (.seq .nil (.seq .nil .nil)))) .nil)))) (.seq .nil .nil)))))), [3000024, 3000027, 5000048], [], [.res (.cell 6 29) (.pz .i64 38 (.pair (.int .i64) (.pair (.int .i64) (.int .i64)))), .res (.tmp 7) (.v .bool)]⟩
noncomputable def spec_MakePuzzle.sp : CSpec := mkSpec spec_MakePuzzle.g T spec_MakePuzzle.i
theorem spec_MakePuzzle.ok : SpecOk Tryz.prog I 7 spec_MakePuzzle.sp := mkSpec_ok hmix hI spec_MakePuzzle.gok tok spec_MakePuzzle.i Tryz.func7 (by kernel_rfl) (by kernel_rfl) (by kernel_rfl) (by kernel_rfl)
noncomputable def spec_MakePuzzle.f (x0 : List Int) (x1 : Int) (x2 : Int) : Option ((Int × (List (Int × Int × Int))) × Bool) := run spec_MakePuzzle.g T spec_MakePuzzle.i [.v (.slice (.int .i64)) x0, .v (.int .i64) x1, .v (.int .i64) x2]
noncomputable def spec_MakePuzzle.j0 (x0 : List Int) (x1 : Int) (x2 : Int) (x23 : Bool) (xb6_0 : Int) (xb6_1 : List (Int × Int × Int)) : Option ((Int × (List (Int × Int × Int))) × Bool) := runJ spec_MakePuzzle.g T spec_MakePuzzle.i [true, false, true] [(0, .val (.slice (.int .i64)) x0), (1, .val (.int .i64) x1), (2, .val (.int .i64) x2), (6, .ptr 6 0), (23, .val .bool x23)] [(6, [⟨(.int .i64), xb6_0⟩, ⟨(.slice (.pair (.int .i64) (.pair (.int .i64) (.int .i64)))), xb6_1⟩])]
noncomputable def spec_MakePuzzle.l0 (x0 : List Int) (x1 : Int) (x9 : Int) (xb6_0 : Int) (xb6_1 : List (Int × Int × Int)) (xb8_0 : Int) (xb8_1 : List (Int × Int × Int)) : Option ((Int × (List (Int × Int × Int))) × Bool) := runAt spec_MakePuzzle.g T spec_MakePuzzle.i [true, true, true, true, false, false] [(0, .val (.slice (.int .i64)) x0), (1, .val (.int .i64) x1), (6, .ptr 6 0), (8, .ptr 8 0), (9, .val (.int .i64) x9)] [(6, [⟨(.int .i64), xb6_0⟩, ⟨(.slice (.pair (.int .i64) (.pair (.int .i64) (.int .i64)))), xb6_1⟩]), (8, [⟨(.int .i64), xb8_0⟩, ownV 38 (.pair (.int .i64) (.pair (.int .i64) (.int .i64))) xb8_1])]
theorem spec_MakePuzzle.f.eq (x0 : List Int) (x1 : Int) (x2 : Int) : spec_MakePuzzle.f x0 x1 x2 =
  (spec_pzHidden.f x0).bind fun y1 =>
  if (!y1) = true then
    spec_MakePuzzle.j0 x0 x1 x2 true 0 []
  else
    (spec_l1In.f x1 0 6).bind fun y8 =>
    if (if false = true then true else !y8) = true then
      spec_MakePuzzle.j0 x0 x1 x2 true 0 []
    else
      (spec_l1In.f x2 0 9999).bind fun y10 =>
      spec_MakePuzzle.j0 x0 x1 x2 (if false = true then true else !y10) 0 [] := by kernel_rfl
theorem spec_MakePuzzle.j0.eq (x0 : List Int) (x1 : Int) (x2 : Int) (x23 : Bool) (xb6_0 : Int) (xb6_1 : List (Int × Int × Int)) : spec_MakePuzzle.j0 x0 x1 x2 x23 xb6_0 xb6_1 =
  if x23 = true then
    some ((0, []), false)
  else
    spec_MakePuzzle.l0 x0 x1 x2 xb6_0 xb6_1 (x0.length : Int) [] := (runJ_eq _ _ _ _ _ _).trans (by kernel_rfl)
theorem spec_MakePuzzle.l0.eq (x0 : List Int) (x1 : Int) (x9 : Int) (xb6_0 : Int) (xb6_1 : List (Int × Int × Int)) (xb8_0 : Int) (xb8_1 : List (Int × Int × Int)) : spec_MakePuzzle.l0 x0 x1 x9 xb6_0 xb6_1 xb8_0 xb8_1 =
  if (decide (x1 > 0)) = true then
    (spec_pzNext.f x9).bind fun y2 =>
    (spec_pzNext.f y2).bind fun y4 =>
    (spec_pzOf.f (y2.tmod 6) y4 x0).bind fun y5 =>
    (catI (appMax 24) xb8_1 [y5]).bind fun y6 =>
    spec_MakePuzzle.l0 x0 (IntKind.i64.wrap (x1 - 1)) y4 xb6_0 xb6_1 xb8_0 y6
  else
    some ((xb8_0, xb8_1), true) := (runAt_loop _ _ _ _ _ _).trans (by kernel_rfl)
noncomputable def laws_qPuzzle.g : Gam := []
theorem laws_qPuzzle.gok : GOkI Tryz.prog I laws_qPuzzle.g := GOkI.nil _ _
noncomputable def laws_qPuzzle.i : FI := ⟨Tryz.f8, body Tryz.f8, (.seq .nil (.seq (.cut [2, 3, 19] [2, 3] .nil (.cond (.seq .nil .nil) .nil)) (.seq (.seq .nil (.blk (.loop [2, 3, 22, 23] [2, 3] (.seq .nil (.seq (.cond .nil .nil) (.seq (.blk (.seq .nil (.seq .nil (.cond (.seq .nil .nil) .nil)))) .nil)))))) (.seq .nil .nil)))), [], [], [.res (.tmp 4) (.v .bool)]⟩
noncomputable def laws_qPuzzle.sp : CSpec := mkSpec laws_qPuzzle.g T laws_qPuzzle.i
theorem laws_qPuzzle.ok : SpecOk Tryz.prog I 8 laws_qPuzzle.sp := mkSpec_ok hmix hI laws_qPuzzle.gok tok laws_qPuzzle.i Tryz.func8 (by kernel_rfl) (by kernel_rfl) (by kernel_rfl) (by kernel_rfl)
noncomputable def laws_qPuzzle.f (x0 : Int × (List (Int × Int × Int))) (x1 : Int × (List (Int × Int × Int))) : Option (Bool) := run laws_qPuzzle.g T laws_qPuzzle.i [.v (.pair (.int .i64) (.slice (.pair (.int .i64) (.pair (.int .i64) (.int .i64))))) x0, .v (.pair (.int .i64) (.slice (.pair (.int .i64) (.pair (.int .i64) (.int .i64))))) x1]
noncomputable def laws_qPuzzle.j0 (x19 : Bool) (xb2_0 : Int) (xb2_1 : List (Int × Int × Int)) (xb3_0 : Int) (xb3_1 : List (Int × Int × Int)) : Option (Bool) := runJ laws_qPuzzle.g T laws_qPuzzle.i [true, false, true] [(2, .ptr 2 0), (3, .ptr 3 0), (19, .val .bool x19)] [(2, [⟨(.int .i64), xb2_0⟩, ⟨(.slice (.pair (.int .i64) (.pair (.int .i64) (.int .i64)))), xb2_1⟩]), (3, [⟨(.int .i64), xb3_0⟩, ⟨(.slice (.pair (.int .i64) (.pair (.int .i64) (.int .i64)))), xb3_1⟩])]
noncomputable def laws_qPuzzle.l0 (x22 : Int) (x23 : Int) (xb2_0 : Int) (xb2_1 : List (Int × Int × Int)) (xb3_0 : Int) (xb3_1 : List (Int × Int × Int)) : Option (Bool) := runAt laws_qPuzzle.g T laws_qPuzzle.i [true, true, false, true, false] [(2, .ptr 2 0), (3, .ptr 3 0), (22, .val (.int .i64) x22), (23, .val (.int .i64) x23)] [(2, [⟨(.int .i64), xb2_0⟩, ⟨(.slice (.pair (.int .i64) (.pair (.int .i64) (.int .i64)))), xb2_1⟩]), (3, [⟨(.int .i64), xb3_0⟩, ⟨(.slice (.pair (.int .i64) (.pair (.int .i64) (.int .i64)))), xb3_1⟩])]
theorem laws_qPuzzle.f.eq (x0 : Int × (List (Int × Int × Int))) (x1 : Int × (List (Int × Int × Int))) : laws_qPuzzle.f x0 x1 =
  if (x0.1 != x1.1) = true then
    laws_qPuzzle.j0 true x0.1 x0.2 x1.1 x1.2
  else
    laws_qPuzzle.j0 (if false = true then true else (x0.2.length : Int) != (x1.2.length : Int)) x0.1 x0.2 x1.1 x1.2 := by kernel_rfl
theorem laws_qPuzzle.j0.eq (x19 : Bool) (xb2_0 : Int) (xb2_1 : List (Int × Int × Int)) (xb3_0 : Int) (xb3_1 : List (Int × Int × Int)) : laws_qPuzzle.j0 x19 xb2_0 xb2_1 xb3_0 xb3_1 =
  if x19 = true then
    some false
  else
    laws_qPuzzle.l0 (xb2_1.length : Int) 0 xb2_0 xb2_1 xb3_0 xb3_1 := (runJ_eq _ _ _ _ _ _).trans (by kernel_rfl)
theorem laws_qPuzzle.l0.eq (x22 : Int) (x23 : Int) (xb2_0 : Int) (xb2_1 : List (Int × Int × Int)) (xb3_0 : Int) (xb3_1 : List (Int × Int × Int)) : laws_qPuzzle.l0 x22 x23 xb2_0 xb2_1 xb3_0 xb3_1 =
  if (decide (x23 < x22)) = true then
    (rdI xb2_1 x23).bind fun y2 =>
    (rdI xb3_1 x23).bind fun y3 =>
    if (!((y2.1 == y3.1) && ((y2.2.1 == y3.2.1) && (y2.2.2 == y3.2.2)))) = true then
      some false
    else
      laws_qPuzzle.l0 x22 (IntKind.i64.wrap (x23 + 1)) xb2_0 xb2_1 xb3_0 xb3_1
  else
    some true := (runAt_loop _ _ _ _ _ _).trans (by kernel_rfl)
noncomputable def impl_AreAges.g : Gam := [(37, impl_between.sp), (67, impl_areBetween.sp)]
theorem impl_AreAges.gok : GOkI Tryz.prog I impl_AreAges.g := ((GOkI.nil _ _).cons impl_areBetween.ok).cons impl_between.ok
noncomputable def impl_AreAges.i : FI := ⟨Tryz.f73, body Tryz.f73, (.seq .nil (.seq .nil .nil)), [], [], [.res (.tmp 2) (.v .bool)]⟩
noncomputable def impl_AreAges.sp : CSpec := mkSpec impl_AreAges.g T impl_AreAges.i
theorem impl_AreAges.ok : SpecOk Tryz.prog I 73 impl_AreAges.sp := mkSpec_ok hmix hI impl_AreAges.gok tok impl_AreAges.i Tryz.func73 (by kernel_rfl) (by kernel_rfl) (by kernel_rfl) (by kernel_rfl)
noncomputable def impl_AreAges.f (x0 : List Int) : Option (Bool) := run impl_AreAges.g T impl_AreAges.i [.v (.slice (.int .i64)) x0]
theorem impl_AreAges.f.eq (x0 : List Int) : impl_AreAges.f x0 =
  (impl_between.f (x0.length : Int) 1 8).bind fun y2 =>
  if y2 = true then
    (impl_areBetween.f x0 0 120).bind fun y3 =>
    some (if true = true then y3 else false)
  else
    some false := by kernel_rfl
noncomputable def slices_Min.g : Gam := []
theorem slices_Min.gok : GOkI Tryz.prog I slices_Min.g := GOkI.nil _ _
noncomputable def slices_Min.i : FI := ⟨Tryz.f99, body Tryz.f99, (.seq .nil (.seq (.seq .nil (.cond .nil .nil)) (.seq .nil (.seq (.seq .nil (.blk (.loop [0, 3, 4] [] (.seq (.seq .nil (.cond .nil .nil)) (.seq (.blk .nil) .nil))))) (.seq .nil .nil))))), [], [], [.res (.tmp 2) (.v (.int .i64))]⟩
noncomputable def slices_Min.sp : CSpec := mkSpec slices_Min.g T slices_Min.i
theorem slices_Min.ok : SpecOk Tryz.prog I 99 slices_Min.sp := mkSpec_ok hmix hI slices_Min.gok tok slices_Min.i Tryz.func99 (by kernel_rfl) (by kernel_rfl) (by kernel_rfl) (by kernel_rfl)
noncomputable def slices_Min.f (x0 : List Int) : Option (Int) := run slices_Min.g T slices_Min.i [.v (.slice (.int .i64)) x0]
noncomputable def slices_Min.l0 (x0 : List Int) (x3 : Int) (x4 : Int) : Option (Int) := runAt slices_Min.g T slices_Min.i [true, true, true, false, true, false] [(0, .val (.slice (.int .i64)) x0), (3, .val (.int .i64) x3), (4, .val (.int .i64) x4)] []
theorem slices_Min.f.eq (x0 : List Int) : slices_Min.f x0 =
  if (decide ((x0.length : Int) < 1)) = true then
    none
  else
    (rdI x0 0).bind fun y3 =>
    slices_Min.l0 x0 y3 1 := by kernel_rfl
theorem slices_Min.l0.eq (x0 : List Int) (x3 : Int) (x4 : Int) : slices_Min.l0 x0 x3 x4 =
  if (decide (x4 < (x0.length : Int))) = true then
    (rdI x0 x4).bind fun y3 =>
    slices_Min.l0 x0 (mn2 x3 y3) (IntKind.i64.wrap (x4 + 1))
  else
    some x3 := (runAt_loop _ _ _ _ _ _).trans (by kernel_rfl)
noncomputable def slices_Max.g : Gam := []
theorem slices_Max.gok : GOkI Tryz.prog I slices_Max.g := GOkI.nil _ _
noncomputable def slices_Max.i : FI := ⟨Tryz.f100, body Tryz.f100, (.seq .nil (.seq (.seq .nil (.cond .nil .nil)) (.seq .nil (.seq (.seq .nil (.blk (.loop [0, 3, 4] [] (.seq (.seq .nil (.cond .nil .nil)) (.seq (.blk .nil) .nil))))) (.seq .nil .nil))))), [], [], [.res (.tmp 2) (.v (.int .i64))]⟩
noncomputable def slices_Max.sp : CSpec := mkSpec slices_Max.g T slices_Max.i
theorem slices_Max.ok : SpecOk Tryz.prog I 100 slices_Max.sp := mkSpec_ok hmix hI slices_Max.gok tok slices_Max.i Tryz.func100 (by kernel_rfl) (by kernel_rfl) (by kernel_rfl) (by kernel_rfl)
noncomputable def slices_Max.f (x0 : List Int) : Option (Int) := run slices_Max.g T slices_Max.i [.v (.slice (.int .i64)) x0]
noncomputable def slices_Max.l0 (x0 : List Int) (x3 : Int) (x4 : Int) : Option (Int) := runAt slices_Max.g T slices_Max.i [true, true, true, false, true, false] [(0, .val (.slice (.int .i64)) x0), (3, .val (.int .i64) x3), (4, .val (.int .i64) x4)] []
theorem slices_Max.f.eq (x0 : List Int) : slices_Max.f x0 =
  if (decide ((x0.length : Int) < 1)) = true then
    none
  else
    (rdI x0 0).bind fun y3 =>
    slices_Max.l0 x0 y3 1 := by kernel_rfl
theorem slices_Max.l0.eq (x0 : List Int) (x3 : Int) (x4 : Int) : slices_Max.l0 x0 x3 x4 =
  if (decide (x4 < (x0.length : Int))) = true then
    (rdI x0 x4).bind fun y3 =>
    slices_Max.l0 x0 (mx2 x3 y3) (IntKind.i64.wrap (x4 + 1))
  else
    some x3 := (runAt_loop _ _ _ _ _ _).trans (by kernel_rfl)
noncomputable def impl_fitYears.g : Gam := [(99, slices_Min.sp), (100, slices_Max.sp)]
theorem impl_fitYears.gok : GOkI Tryz.prog I impl_fitYears.g := ((GOkI.nil _ _).cons slices_Max.ok).cons slices_Min.ok
noncomputable def impl_fitYears.i : FI := ⟨Tryz.f88, body Tryz.f88, (.seq .nil (.seq .nil .nil)), [], [], [.res (.tmp 2) (.v (.int .i64)), .res (.tmp 3) (.v (.int .i64))]⟩
noncomputable def impl_fitYears.sp : CSpec := mkSpec impl_fitYears.g T impl_fitYears.i
theorem impl_fitYears.ok : SpecOk Tryz.prog I 88 impl_fitYears.sp := mkSpec_ok hmix hI impl_fitYears.gok tok impl_fitYears.i Tryz.func88 (by kernel_rfl) (by kernel_rfl) (by kernel_rfl) (by kernel_rfl)
noncomputable def impl_fitYears.f (x0 : List Int) : Option (Int × Int) := run impl_fitYears.g T impl_fitYears.i [.v (.slice (.int .i64)) x0]
theorem impl_fitYears.f.eq (x0 : List Int) : impl_fitYears.f x0 =
  (slices_Min.f x0).bind fun y1 =>
  (slices_Max.f x0).bind fun y3 =>
  some ((IntKind.i64.wrap (0 - y1)), (IntKind.i64.wrap (120 - y3))) := by kernel_rfl
noncomputable def impl_isFit.g : Gam := [(88, impl_fitYears.sp), (37, impl_between.sp)]
theorem impl_isFit.gok : GOkI Tryz.prog I impl_isFit.g := ((GOkI.nil _ _).cons impl_between.ok).cons impl_fitYears.ok
noncomputable def impl_isFit.i : FI := ⟨Tryz.f74, body Tryz.f74, (.seq .nil (.seq .nil (.seq .nil .nil))), [], [], [.res (.tmp 4) (.v .bool)]⟩
noncomputable def impl_isFit.sp : CSpec := mkSpec impl_isFit.g T impl_isFit.i
theorem impl_isFit.ok : SpecOk Tryz.prog I 74 impl_isFit.sp := mkSpec_ok hmix hI impl_isFit.gok tok impl_isFit.i Tryz.func74 (by kernel_rfl) (by kernel_rfl) (by kernel_rfl) (by kernel_rfl)
noncomputable def impl_isFit.f (x0 : List Int) (x1 : Int) : Option (Bool) := run impl_isFit.g T impl_isFit.i [.v (.slice (.int .i64)) x0, .v (.int .i64) x1]
theorem impl_isFit.f.eq (x0 : List Int) (x1 : Int) : impl_isFit.f x0 x1 =
  (impl_fitYears.f x0).bind fun y1 =>
  (impl_between.f x1 y1.1 y1.2).bind fun y2 =>
  some y2 := by kernel_rfl
noncomputable def impl_AgesIn.g : Gam := [(73, impl_AreAges.sp), (74, impl_isFit.sp), (70, impl_inYears.sp)]
theorem impl_AgesIn.gok : GOkI Tryz.prog I impl_AgesIn.g := (((GOkI.nil _ _).cons impl_inYears.ok).cons impl_isFit.ok).cons impl_AreAges.ok
noncomputable def impl_AgesIn.i : FI := ⟨Tryz.f44, body Tryz.f44, (.seq .nil (.seq (.seq .nil (.cond (.seq .nil .nil) .nil)) (.seq .nil .nil))), [], [], [.res (.tmp 4) (.own 3 (.int .i64)), .res (.tmp 5) (.v .bool)]⟩
noncomputable def impl_AgesIn.sp : CSpec := mkSpec impl_AgesIn.g T impl_AgesIn.i
theorem impl_AgesIn.ok : SpecOk Tryz.prog I 44 impl_AgesIn.sp := mkSpec_ok hmix hI impl_AgesIn.gok tok impl_AgesIn.i Tryz.func44 (by kernel_rfl) (by kernel_rfl) (by kernel_rfl) (by kernel_rfl)
noncomputable def impl_AgesIn.f (x0 : List Int) (x1 : Int) : Option ((List Int) × Bool) := run impl_AgesIn.g T impl_AgesIn.i [.v (.slice (.int .i64)) x0, .v (.int .i64) x1]
theorem impl_AgesIn.f.eq (x0 : List Int) (x1 : Int) : impl_AgesIn.f x0 x1 =
  (impl_AreAges.f x0).bind fun y1 =>
  if (!y1) = true then
    some ([], false)
  else
    (impl_isFit.f x0 x1).bind fun y2 =>
    if (if false = true then true else !y2) = true then
      some ([], false)
    else
      (impl_inYears.f x0 x1).bind fun y4 =>
      some (y4, true) := by kernel_rfl
noncomputable def impl_SumIn.g : Gam := [(44, impl_AgesIn.sp), (45, impl_total.sp)]
theorem impl_SumIn.gok : GOkI Tryz.prog I impl_SumIn.g := ((GOkI.nil _ _).cons impl_total.ok).cons impl_AgesIn.ok
noncomputable def impl_SumIn.i : FI := ⟨Tryz.f9, body Tryz.f9, (.seq .nil (.seq .nil (.seq .nil .nil))), [], [], [.res (.tmp 4) (.v (.int .i64)), .res (.tmp 5) (.v .bool)]⟩
noncomputable def impl_SumIn.sp : CSpec := mkSpec impl_SumIn.g T impl_SumIn.i
theorem impl_SumIn.ok : SpecOk Tryz.prog I 9 impl_SumIn.sp := mkSpec_ok hmix hI impl_SumIn.gok tok impl_SumIn.i Tryz.func9 (by kernel_rfl) (by kernel_rfl) (by kernel_rfl) (by kernel_rfl)
noncomputable def impl_SumIn.f (x0 : List Int) (x1 : Int) : Option (Int × Bool) := run impl_SumIn.g T impl_SumIn.i [.v (.slice (.int .i64)) x0, .v (.int .i64) x1]
theorem impl_SumIn.f.eq (x0 : List Int) (x1 : Int) : impl_SumIn.f x0 x1 =
  (impl_AgesIn.f x0 x1).bind fun y1 =>
  (impl_total.f y1.1).bind fun y2 =>
  some (y2, y1.2) := by kernel_rfl
noncomputable def impl_IsClue.g : Gam := [(37, impl_between.sp)]
theorem impl_IsClue.gok : GOkI Tryz.prog I impl_IsClue.g := (GOkI.nil _ _).cons impl_between.ok
noncomputable def impl_IsClue.i : FI := ⟨Tryz.f30, body Tryz.f30, (.seq .nil (.seq (.cut [0, 3, 19] [3] .nil (.cond (.seq .nil .nil) .nil)) (.seq (.seq .nil (.blk (.seq .nil (.cond (.seq .nil .nil) (.cut [0, 3, 21, 29] [3] (.seq .nil (.cond .nil .nil)) (.cond (.seq .nil .nil) (.seq .nil (.cond (.seq .nil .nil) .nil)))))))) (.seq .nil .nil)))), [], [], [.res (.tmp 4) (.v .bool)]⟩
noncomputable def impl_IsClue.sp : CSpec := mkSpec impl_IsClue.g T impl_IsClue.i
theorem impl_IsClue.ok : SpecOk Tryz.prog I 30 impl_IsClue.sp := mkSpec_ok hmix hI impl_IsClue.gok tok impl_IsClue.i Tryz.func30 (by kernel_rfl) (by kernel_rfl) (by kernel_rfl) (by kernel_rfl)
noncomputable def impl_IsClue.f (x0 : Int) (x1 : Int × Int × Int) : Option (Bool) := run impl_IsClue.g T impl_IsClue.i [.v (.int .i64) x0, .v (.pair (.int .i64) (.pair (.int .i64) (.int .i64))) x1]
noncomputable def impl_IsClue.j0 (x0 : Int) (x19 : Bool) (xb3_0 : Int) (xb3_1 : Int) (xb3_2 : Int) : Option (Bool) := runJ impl_IsClue.g T impl_IsClue.i [true, false, true] [(0, .val (.int .i64) x0), (3, .ptr 3 0), (19, .val .bool x19)] [(3, [⟨(.int .i64), xb3_0⟩, ⟨(.int .i64), xb3_1⟩, ⟨(.int .i64), xb3_2⟩])]
noncomputable def impl_IsClue.j1 (x0 : Int) (x21 : Int) (x29 : Bool) (xb3_0 : Int) (xb3_1 : Int) (xb3_2 : Int) : Option (Bool) := runJ impl_IsClue.g T impl_IsClue.i [true, true, false, true, false, true, true, true] [(0, .val (.int .i64) x0), (3, .ptr 3 0), (21, .val (.int .i64) x21), (29, .val .bool x29)] [(3, [⟨(.int .i64), xb3_0⟩, ⟨(.int .i64), xb3_1⟩, ⟨(.int .i64), xb3_2⟩])]
theorem impl_IsClue.f.eq (x0 : Int) (x1 : Int × Int × Int) : impl_IsClue.f x0 x1 =
  (impl_between.f x0 2 3).bind fun y1 =>
  if (!y1) = true then
    impl_IsClue.j0 x0 true x1.1 x1.2.1 x1.2.2
  else
    (impl_between.f x1.1 0 6).bind fun y10 =>
    if (if false = true then true else !y10) = true then
      impl_IsClue.j0 x0 true x1.1 x1.2.1 x1.2.2
    else
      (impl_between.f x1.2.2 0 2000).bind fun y12 =>
      impl_IsClue.j0 x0 (if false = true then true else !y12) x1.1 x1.2.1 x1.2.2 := by kernel_rfl
theorem impl_IsClue.j0.eq (x0 : Int) (x19 : Bool) (xb3_0 : Int) (xb3_1 : Int) (xb3_2 : Int) : impl_IsClue.j0 x0 x19 xb3_0 xb3_1 xb3_2 =
  if x19 = true then
    some false
  else
    if (xb3_0 == 1) = true then
      (impl_between.f xb3_1 0 (IntKind.i64.wrap (x0 - 1))).bind fun y3 =>
      some y3
    else
      if (xb3_0 == 3) = true then
        impl_IsClue.j1 x0 xb3_0 (xb3_0 == 3) xb3_0 xb3_1 xb3_2
      else
        impl_IsClue.j1 x0 xb3_0 (xb3_0 == 5) xb3_0 xb3_1 xb3_2 := (runJ_eq _ _ _ _ _ _).trans (by kernel_rfl)
theorem impl_IsClue.j1.eq (x0 : Int) (x21 : Int) (x29 : Bool) (xb3_0 : Int) (xb3_1 : Int) (xb3_2 : Int) : impl_IsClue.j1 x0 x21 x29 xb3_0 xb3_1 xb3_2 =
  if x29 = true then
    (impl_between.f xb3_1 0 (IntKind.i64.wrap (x0 - 1))).bind fun y2 =>
    if y2 = true then
      some (if true = true then (decide (xb3_2 ≤ 1)) else false)
    else
      some false
  else
    if (x21 == 6) = true then
      (impl_between.f xb3_1 0 9).bind fun y5 =>
      if y5 = true then
        (impl_between.f xb3_2 2 9).bind fun y6 =>
        some (if true = true then y6 else false)
      else
        some false
    else
      some (xb3_1 == 0) := (runJ_eq _ _ _ _ _ _).trans (by kernel_rfl)
noncomputable def impl_Clue_fits.g : Gam := [(39, impl_tells.sp)]
theorem impl_Clue_fits.gok : GOkI Tryz.prog I impl_Clue_fits.g := (GOkI.nil _ _).cons impl_tells.ok
noncomputable def impl_Clue_fits.i : FI := ⟨Tryz.f46, body Tryz.f46, (.seq .nil (.seq .nil (.seq (.seq .nil (.cond (.seq .nil .nil) .nil)) (.seq .nil .nil)))), [], [], [.res (.tmp 4) (.v .bool)]⟩
noncomputable def impl_Clue_fits.sp : CSpec := mkSpec impl_Clue_fits.g T impl_Clue_fits.i
theorem impl_Clue_fits.ok : SpecOk Tryz.prog I 46 impl_Clue_fits.sp := mkSpec_ok hmix hI impl_Clue_fits.gok tok impl_Clue_fits.i Tryz.func46 (by kernel_rfl) (by kernel_rfl) (by kernel_rfl) (by kernel_rfl)
noncomputable def impl_Clue_fits.f (x0 : Int × Int × Int) (x1 : List Int) : Option (Bool) := run impl_Clue_fits.g T impl_Clue_fits.i [.v (.pair (.int .i64) (.pair (.int .i64) (.int .i64))) x0, .v (.slice (.int .i64)) x1]
theorem impl_Clue_fits.f.eq (x0 : Int × Int × Int) (x1 : List Int) : impl_Clue_fits.f x0 x1 =
  (impl_tells.f x0.1 x0.2.1 x1).bind fun y1 =>
  if (x0.1 == 6) = true then
    if x0.2.2 = 0 then
      none
    else
      some ((y1.tmod x0.2.2) == 0)
  else
    some (y1 == x0.2.2) := by kernel_rfl
noncomputable def impl_DoesFit.g : Gam := [(36, impl_areHidden.sp), (30, impl_IsClue.sp), (46, impl_Clue_fits.sp)]
theorem impl_DoesFit.gok : GOkI Tryz.prog I impl_DoesFit.g := (((GOkI.nil _ _).cons impl_Clue_fits.ok).cons impl_IsClue.ok).cons impl_areHidden.ok
noncomputable def impl_DoesFit.i : FI := ⟨Tryz.f10, body Tryz.f10, (.seq .nil (.seq (.seq .nil (.cond (.seq .nil .nil) .nil)) (.seq .nil .nil))), [], [], [.res (.tmp 4) (.v .bool), .res (.tmp 5) (.v .bool)]⟩
noncomputable def impl_DoesFit.sp : CSpec := mkSpec impl_DoesFit.g T impl_DoesFit.i
theorem impl_DoesFit.ok : SpecOk Tryz.prog I 10 impl_DoesFit.sp := mkSpec_ok hmix hI impl_DoesFit.gok tok impl_DoesFit.i Tryz.func10 (by kernel_rfl) (by kernel_rfl) (by kernel_rfl) (by kernel_rfl)
noncomputable def impl_DoesFit.f (x0 : Int × Int × Int) (x1 : List Int) : Option (Bool × Bool) := run impl_DoesFit.g T impl_DoesFit.i [.v (.pair (.int .i64) (.pair (.int .i64) (.int .i64))) x0, .v (.slice (.int .i64)) x1]
theorem impl_DoesFit.f.eq (x0 : Int × Int × Int) (x1 : List Int) : impl_DoesFit.f x0 x1 =
  (impl_areHidden.f x1).bind fun y1 =>
  if (!y1) = true then
    some (false, false)
  else
    (impl_IsClue.f (x1.length : Int) (x0.1, x0.2.1, x0.2.2)).bind fun y3 =>
    if (if false = true then true else !y3) = true then
      some (false, false)
    else
      (impl_Clue_fits.f (x0.1, x0.2.1, x0.2.2) x1).bind fun y5 =>
      some (y5, true) := by kernel_rfl
noncomputable def impl_ProductIn.g : Gam := [(44, impl_AgesIn.sp), (47, impl_product.sp)]
theorem impl_ProductIn.gok : GOkI Tryz.prog I impl_ProductIn.g := ((GOkI.nil _ _).cons impl_product.ok).cons impl_AgesIn.ok
noncomputable def impl_ProductIn.i : FI := ⟨Tryz.f11, body Tryz.f11, (.seq .nil (.seq .nil (.seq (.seq .nil (.cond (.seq .nil .nil) .nil)) (.seq .nil .nil)))), [], [], [.res (.tmp 4) (.v (.int .i64)), .res (.tmp 5) (.v .bool)]⟩
noncomputable def impl_ProductIn.sp : CSpec := mkSpec impl_ProductIn.g T impl_ProductIn.i
theorem impl_ProductIn.ok : SpecOk Tryz.prog I 11 impl_ProductIn.sp := mkSpec_ok hmix hI impl_ProductIn.gok tok impl_ProductIn.i Tryz.func11 (by kernel_rfl) (by kernel_rfl) (by kernel_rfl) (by kernel_rfl)
noncomputable def impl_ProductIn.f (x0 : List Int) (x1 : Int) : Option (Int × Bool) := run impl_ProductIn.g T impl_ProductIn.i [.v (.slice (.int .i64)) x0, .v (.int .i64) x1]
theorem impl_ProductIn.f.eq (x0 : List Int) (x1 : Int) : impl_ProductIn.f x0 x1 =
  (impl_AgesIn.f x0 x1).bind fun y1 =>
  if (!y1.2) = true then
    some (0, false)
  else
    (impl_product.f y1.1).bind fun y2 =>
    some (y2, true) := by kernel_rfl
noncomputable def impl_isKind.g : Gam := [(75, strings_Contains.sp)]
theorem impl_isKind.gok : GOkI Tryz.prog I impl_isKind.g := (GOkI.nil _ _).cons strings_Contains.ok
noncomputable def impl_isKind.i : FI := ⟨Tryz.f48, body Tryz.f48, (.seq .nil (.seq .nil .nil)), [], [], [.res (.tmp 2) (.v .bool)]⟩
noncomputable def impl_isKind.sp : CSpec := mkSpec impl_isKind.g T impl_isKind.i
theorem impl_isKind.ok : SpecOk Tryz.prog I 48 impl_isKind.sp := mkSpec_ok hmix hI impl_isKind.gok tok impl_isKind.i Tryz.func48 (by kernel_rfl) (by kernel_rfl) (by kernel_rfl) (by kernel_rfl)
noncomputable def impl_isKind.f (x0 : List UInt8) : Option (Bool) := run impl_isKind.g T impl_isKind.i [.v .str x0]
theorem impl_isKind.f.eq (x0 : List UInt8) : impl_isKind.f x0 =
  if ((x0.length : Int) == 1) = true then
    (strings_Contains.f [112, 115, 99, 116, 100, 114] x0).bind fun y2 =>
    some (if true = true then y2 else false)
  else
    some false := by kernel_rfl
noncomputable def impl_CountOfKind.g : Gam := [(44, impl_AgesIn.sp), (48, impl_isKind.sp), (49, impl_countOf.sp)]
theorem impl_CountOfKind.gok : GOkI Tryz.prog I impl_CountOfKind.g := (((GOkI.nil _ _).cons impl_countOf.ok).cons impl_isKind.ok).cons impl_AgesIn.ok
noncomputable def impl_CountOfKind.i : FI := ⟨Tryz.f12, body Tryz.f12, (.seq .nil (.seq .nil (.seq (.seq .nil (.cond (.seq .nil .nil) .nil)) (.seq .nil .nil)))), [], [], [.res (.tmp 6) (.v (.int .i64)), .res (.tmp 7) (.v .bool)]⟩
noncomputable def impl_CountOfKind.sp : CSpec := mkSpec impl_CountOfKind.g T impl_CountOfKind.i
theorem impl_CountOfKind.ok : SpecOk Tryz.prog I 12 impl_CountOfKind.sp := mkSpec_ok hmix hI impl_CountOfKind.gok tok impl_CountOfKind.i Tryz.func12 (by kernel_rfl) (by kernel_rfl) (by kernel_rfl) (by kernel_rfl)
noncomputable def impl_CountOfKind.f (x0 : List Int) (x1 : Int) (x2 : List UInt8) : Option (Int × Bool) := run impl_CountOfKind.g T impl_CountOfKind.i [.v (.slice (.int .i64)) x0, .v (.int .i64) x1, .v .str x2]
theorem impl_CountOfKind.f.eq (x0 : List Int) (x1 : Int) (x2 : List UInt8) : impl_CountOfKind.f x0 x1 x2 =
  (impl_AgesIn.f x0 x1).bind fun y1 =>
  if (!y1.2) = true then
    some (0, false)
  else
    (impl_isKind.f x2).bind fun y2 =>
    if (if false = true then true else !y2) = true then
      some (0, false)
    else
      (impl_countOf.f y1.1 x2).bind fun y4 =>
      some (y4, true) := by kernel_rfl
noncomputable def impl_IsPuzzle_1.g : Gam := [(30, impl_IsClue.sp)]
theorem impl_IsPuzzle_1.gok : GOkI Tryz.prog I impl_IsPuzzle_1.g := (GOkI.nil _ _).cons impl_IsClue.ok
noncomputable def impl_IsPuzzle_1.i : FI := ⟨Tryz.f51, body Tryz.f51, (.seq .nil (.seq .nil .nil)), [], [], [.res (.tmp 3) (.v .bool)]⟩
noncomputable def impl_IsPuzzle_1.sp : CSpec := mkSpec impl_IsPuzzle_1.g T impl_IsPuzzle_1.i
theorem impl_IsPuzzle_1.ok : SpecOk Tryz.prog I 51 impl_IsPuzzle_1.sp := mkSpec_ok hmix hI impl_IsPuzzle_1.gok tok impl_IsPuzzle_1.i Tryz.func51 (by kernel_rfl) (by kernel_rfl) (by kernel_rfl) (by kernel_rfl)
noncomputable def impl_IsPuzzle_1.f (x0 : Int × Int × Int) (x1 : Int × (List (Int × Int × Int))) : Option (Bool) := run impl_IsPuzzle_1.g T impl_IsPuzzle_1.i [.v (.pair (.int .i64) (.pair (.int .i64) (.int .i64))) x0, .cr (.pair (.int .i64) (.slice (.pair (.int .i64) (.pair (.int .i64) (.int .i64))))) x1]
theorem impl_IsPuzzle_1.f.eq (x0 : Int × Int × Int) (x1 : Int × (List (Int × Int × Int))) : impl_IsPuzzle_1.f x0 x1 =
  (impl_IsClue.f x1.1 (x0.1, x0.2.1, x0.2.2)).bind fun y1 =>
  some (!y1) := by kernel_rfl
noncomputable def impl_solutions_1_1.g : Gam := [(46, impl_Clue_fits.sp)]
theorem impl_solutions_1_1.gok : GOkI Tryz.prog I impl_solutions_1_1.g := (GOkI.nil _ _).cons impl_Clue_fits.ok
noncomputable def impl_solutions_1_1.i : FI := ⟨Tryz.f82, body Tryz.f82, (.seq .nil (.seq .nil .nil)), [], [], [.res (.tmp 3) (.v .bool)]⟩
noncomputable def impl_solutions_1_1.sp : CSpec := mkSpec impl_solutions_1_1.g T impl_solutions_1_1.i
theorem impl_solutions_1_1.ok : SpecOk Tryz.prog I 82 impl_solutions_1_1.sp := mkSpec_ok hmix hI impl_solutions_1_1.gok tok impl_solutions_1_1.i Tryz.func82 (by kernel_rfl) (by kernel_rfl) (by kernel_rfl) (by kernel_rfl)
noncomputable def impl_solutions_1_1.f (x0 : Int × Int × Int) (x1 : List Int) : Option (Bool) := run impl_solutions_1_1.g T impl_solutions_1_1.i [.v (.pair (.int .i64) (.pair (.int .i64) (.int .i64))) x0, .cr (.slice (.int .i64)) x1]
theorem impl_solutions_1_1.f.eq (x0 : Int × Int × Int) (x1 : List Int) : impl_solutions_1_1.f x0 x1 =
  (impl_Clue_fits.f (x0.1, x0.2.1, x0.2.2) x1).bind fun y1 =>
  some (!y1) := by kernel_rfl
noncomputable def slices_IndexFunc_77.g : Gam := [(51, impl_IsPuzzle_1.sp), (82, impl_solutions_1_1.sp)]
theorem slices_IndexFunc_77.gok : GOkI Tryz.prog I slices_IndexFunc_77.g := ((GOkI.nil _ _).cons impl_solutions_1_1.ok).cons impl_IsPuzzle_1.ok
noncomputable def slices_IndexFunc_77.i : FI := ⟨Tryz.f77, body Tryz.f77, (.seq .nil (.seq (.seq .nil (.blk (.loop [0, 1, 7, 8] [] (.seq .nil (.seq (.cond .nil .nil) (.seq (.blk (.seq .nil (.seq .nil (.cond (.seq .nil .nil) .nil)))) .nil)))))) (.seq .nil .nil))), [], [], [.res (.tmp 4) (.v (.int .i64))]⟩
noncomputable def slices_IndexFunc_77.sp : CSpec := mkSpec slices_IndexFunc_77.g T slices_IndexFunc_77.i
theorem slices_IndexFunc_77.ok : SpecOk Tryz.prog I 77 slices_IndexFunc_77.sp := mkSpec_ok hmix hI slices_IndexFunc_77.gok tok slices_IndexFunc_77.i Tryz.func77 (by kernel_rfl) (by kernel_rfl) (by kernel_rfl) (by kernel_rfl)
noncomputable def slices_IndexFunc_77.f (x0 : List (Int × Int × Int)) (x1_0 : Int × (List (Int × Int × Int))) : Option (Int) := run slices_IndexFunc_77.g T slices_IndexFunc_77.i [.v (.slice (.pair (.int .i64) (.pair (.int .i64) (.int .i64)))) x0, .clo (closure impl_IsPuzzle_1.sp [.cr (.pair (.int .i64) (.slice (.pair (.int .i64) (.pair (.int .i64) (.int .i64))))) x1_0])]
noncomputable def slices_IndexFunc_77.l0 (x0 : List (Int × Int × Int)) (x1_0 : Int × (List (Int × Int × Int))) (x7 : Int) (x8 : Int) : Option (Int) := runAt slices_IndexFunc_77.g T slices_IndexFunc_77.i [true, false, true, false] [(0, .val (.slice (.pair (.int .i64) (.pair (.int .i64) (.int .i64)))) x0), (1, .clo (closure impl_IsPuzzle_1.sp [.cr (.pair (.int .i64) (.slice (.pair (.int .i64) (.pair (.int .i64) (.int .i64))))) x1_0])), (7, .val (.int .i64) x7), (8, .val (.int .i64) x8)] []
theorem slices_IndexFunc_77.f.eq (x0 : List (Int × Int × Int)) (x1_0 : Int × (List (Int × Int × Int))) : slices_IndexFunc_77.f x0 x1_0 =
  slices_IndexFunc_77.l0 x0 x1_0 (x0.length : Int) 0 := by kernel_rfl
theorem slices_IndexFunc_77.l0.eq (x0 : List (Int × Int × Int)) (x1_0 : Int × (List (Int × Int × Int))) (x7 : Int) (x8 : Int) : slices_IndexFunc_77.l0 x0 x1_0 x7 x8 =
  if (decide (x8 < x7)) = true then
    (rdI x0 x8).bind fun y2 =>
    ((impl_IsPuzzle_1.f y2 x1_0).bind some).bind fun y3 =>
    if y3 = true then
      some x8
    else
      slices_IndexFunc_77.l0 x0 x1_0 x7 (IntKind.i64.wrap (x8 + 1))
  else
    some (-1) := (runAt_loop _ _ _ _ _ _).trans (by kernel_rfl)
noncomputable def slices_IndexFunc_77_v1.f (x0 : List (Int × Int × Int)) (x1_0 : List Int) : Option (Int) := run slices_IndexFunc_77.g T slices_IndexFunc_77.i [.v (.slice (.pair (.int .i64) (.pair (.int .i64) (.int .i64)))) x0, .clo (closure impl_solutions_1_1.sp [.cr (.slice (.int .i64)) x1_0])]
noncomputable def slices_IndexFunc_77_v1.l0 (x0 : List (Int × Int × Int)) (x1_0 : List Int) (x7 : Int) (x8 : Int) : Option (Int) := runAt slices_IndexFunc_77.g T slices_IndexFunc_77.i [true, false, true, false] [(0, .val (.slice (.pair (.int .i64) (.pair (.int .i64) (.int .i64)))) x0), (1, .clo (closure impl_solutions_1_1.sp [.cr (.slice (.int .i64)) x1_0])), (7, .val (.int .i64) x7), (8, .val (.int .i64) x8)] []
theorem slices_IndexFunc_77_v1.f.eq (x0 : List (Int × Int × Int)) (x1_0 : List Int) : slices_IndexFunc_77_v1.f x0 x1_0 =
  slices_IndexFunc_77_v1.l0 x0 x1_0 (x0.length : Int) 0 := by kernel_rfl
theorem slices_IndexFunc_77_v1.l0.eq (x0 : List (Int × Int × Int)) (x1_0 : List Int) (x7 : Int) (x8 : Int) : slices_IndexFunc_77_v1.l0 x0 x1_0 x7 x8 =
  if (decide (x8 < x7)) = true then
    (rdI x0 x8).bind fun y2 =>
    ((impl_solutions_1_1.f y2 x1_0).bind some).bind fun y3 =>
    if y3 = true then
      some x8
    else
      slices_IndexFunc_77_v1.l0 x0 x1_0 x7 (IntKind.i64.wrap (x8 + 1))
  else
    some (-1) := (runAt_loop _ _ _ _ _ _).trans (by kernel_rfl)
noncomputable def slices_ContainsFunc_50.g : Gam := [(77, slices_IndexFunc_77.sp)]
theorem slices_ContainsFunc_50.gok : GOkI Tryz.prog I slices_ContainsFunc_50.g := (GOkI.nil _ _).cons slices_IndexFunc_77.ok
noncomputable def slices_ContainsFunc_50.i : FI := ⟨Tryz.f50, body Tryz.f50, (.seq .nil (.seq .nil .nil)), [], [], [.res (.tmp 4) (.v .bool)]⟩
noncomputable def slices_ContainsFunc_50.sp : CSpec := mkSpec slices_ContainsFunc_50.g T slices_ContainsFunc_50.i
theorem slices_ContainsFunc_50.ok : SpecOk Tryz.prog I 50 slices_ContainsFunc_50.sp := mkSpec_ok hmix hI slices_ContainsFunc_50.gok tok slices_ContainsFunc_50.i Tryz.func50 (by kernel_rfl) (by kernel_rfl) (by kernel_rfl) (by kernel_rfl)
noncomputable def slices_ContainsFunc_50.f (x0 : List (Int × Int × Int)) (x1_0 : Int × (List (Int × Int × Int))) : Option (Bool) := run slices_ContainsFunc_50.g T slices_ContainsFunc_50.i [.v (.slice (.pair (.int .i64) (.pair (.int .i64) (.int .i64)))) x0, .clo (closure impl_IsPuzzle_1.sp [.cr (.pair (.int .i64) (.slice (.pair (.int .i64) (.pair (.int .i64) (.int .i64))))) x1_0])]
theorem slices_ContainsFunc_50.f.eq (x0 : List (Int × Int × Int)) (x1_0 : Int × (List (Int × Int × Int))) : slices_ContainsFunc_50.f x0 x1_0 =
  (slices_IndexFunc_77.f x0 x1_0).bind fun y1 =>
  some (decide (y1 ≥ 0)) := by kernel_rfl
noncomputable def slices_ContainsFunc_50_v1.f (x0 : List (Int × Int × Int)) (x1_0 : List Int) : Option (Bool) := run slices_ContainsFunc_50.g T slices_ContainsFunc_50.i [.v (.slice (.pair (.int .i64) (.pair (.int .i64) (.int .i64)))) x0, .clo (closure impl_solutions_1_1.sp [.cr (.slice (.int .i64)) x1_0])]
theorem slices_ContainsFunc_50_v1.f.eq (x0 : List (Int × Int × Int)) (x1_0 : List Int) : slices_ContainsFunc_50_v1.f x0 x1_0 =
  (slices_IndexFunc_77_v1.f x0 x1_0).bind fun y1 =>
  some (decide (y1 ≥ 0)) := by kernel_rfl
noncomputable def impl_IsPuzzle.g : Gam := [(37, impl_between.sp), (50, slices_ContainsFunc_50.sp), (51, impl_IsPuzzle_1.sp)]
theorem impl_IsPuzzle.gok : GOkI Tryz.prog I impl_IsPuzzle.g := (((GOkI.nil _ _).cons impl_IsPuzzle_1.ok).cons slices_ContainsFunc_50.ok).cons impl_between.ok
noncomputable def impl_IsPuzzle.i : FI := ⟨Tryz.f13, body Tryz.f13, (.seq .nil (.seq .nil .nil)), [], [], [.res (.tmp 2) (.v .bool)]⟩
noncomputable def impl_IsPuzzle.sp : CSpec := mkSpec impl_IsPuzzle.g T impl_IsPuzzle.i
theorem impl_IsPuzzle.ok : SpecOk Tryz.prog I 13 impl_IsPuzzle.sp := mkSpec_ok hmix hI impl_IsPuzzle.gok tok impl_IsPuzzle.i Tryz.func13 (by kernel_rfl) (by kernel_rfl) (by kernel_rfl) (by kernel_rfl)
noncomputable def impl_IsPuzzle.f (x0 : Int × (List (Int × Int × Int))) : Option (Bool) := run impl_IsPuzzle.g T impl_IsPuzzle.i [.v (.pair (.int .i64) (.slice (.pair (.int .i64) (.pair (.int .i64) (.int .i64))))) x0]
theorem impl_IsPuzzle.f.eq (x0 : Int × (List (Int × Int × Int))) : impl_IsPuzzle.f x0 =
  (impl_between.f x0.1 2 3).bind fun y1 =>
  if y1 = true then
    if (if true = true then (decide ((x0.2.length : Int) ≤ 6)) else false) = true then
      (slices_ContainsFunc_50.f x0.2 (x0.1, x0.2)).bind fun y5 =>
      some (if true = true then !y5 else false)
    else
      some false
  else
    some false := by kernel_rfl
noncomputable def spec_l1Cur_surePuzzle.g : Gam := [(33, spec_l1Cur_hidden.sp), (35, spec_l1Cur_pick.sp), (7, spec_MakePuzzle.sp)]
theorem spec_l1Cur_surePuzzle.gok : GOkI Tryz.prog I spec_l1Cur_surePuzzle.g := (((GOkI.nil _ _).cons spec_MakePuzzle.ok).cons spec_l1Cur_pick.ok).cons spec_l1Cur_hidden.ok
noncomputable def spec_l1Cur_surePuzzle.i : FI := ⟨Tryz.f78, body Tryz.f78, (.seq .nil (.seq .nil (.seq .nil .nil))), [5000017, 5000019], [1000000], [.res (.cell 4 29) (.pz .i64 38 (.pair (.int .i64) (.pair (.int .i64) (.int .i64)))), .box 1000000 0 (.v (.slice (.int .u8))), .box 1000000 1 (.v (.int .i64)), .box 1000000 2 (.v (.int .u64))]⟩
noncomputable def spec_l1Cur_surePuzzle.sp : CSpec := mkSpec spec_l1Cur_surePuzzle.g T spec_l1Cur_surePuzzle.i
theorem spec_l1Cur_surePuzzle.ok : SpecOk Tryz.prog I 78 spec_l1Cur_surePuzzle.sp := mkSpec_ok hmix hI spec_l1Cur_surePuzzle.gok tok spec_l1Cur_surePuzzle.i Tryz.func78 (by kernel_rfl) (by kernel_rfl) (by kernel_rfl) (by kernel_rfl)
noncomputable def spec_l1Cur_surePuzzle.f (x0_0 : List Int) (x0_1 : Int) (x0_2 : Int) (x1 : Int) : Option ((Int × (List (Int × Int × Int))) × (List Int) × Int × Int) := run spec_l1Cur_surePuzzle.g T spec_l1Cur_surePuzzle.i [.bx [⟨(.slice (.int .u8)), x0_0⟩, ⟨(.int .i64), x0_1⟩, ⟨(.int .u64), x0_2⟩], .v (.int .i64) x1]
theorem spec_l1Cur_surePuzzle.f.eq (x0_0 : List Int) (x0_1 : Int) (x0_2 : Int) (x1 : Int) : spec_l1Cur_surePuzzle.f x0_0 x0_1 x0_2 x1 =
  (spec_l1Cur_hidden.f x0_0 x0_1 x0_2).bind fun y1 =>
  (spec_l1Cur_pick.f y1.2.1 y1.2.2.1 y1.2.2.2 (IntKind.i64.wrap (x1 + 1))).bind fun y3 =>
  (spec_l1Cur_pick.f y3.2.1 y3.2.2.1 y3.2.2.2 10000).bind fun y4 =>
  (spec_MakePuzzle.f y1.1 y3.1 y4.1).bind fun y5 =>
  some ((y5.1.1, y5.1.2), y4.2.1, y4.2.2.1, y4.2.2.2) := by kernel_rfl
noncomputable def spec_l1Cur_clue.g : Gam := [(35, spec_l1Cur_pick.sp), (32, spec_l1Cur_one.sp)]
theorem spec_l1Cur_clue.gok : GOkI Tryz.prog I spec_l1Cur_clue.g := ((GOkI.nil _ _).cons spec_l1Cur_one.ok).cons spec_l1Cur_pick.ok
noncomputable def spec_l1Cur_clue.i : FI := ⟨Tryz.f62, body Tryz.f62, (.seq .nil (.seq .nil (.cut [0, 2, 3] [2, 3, 1000000] (.seq .nil (.blk (.seq .nil (.cond .nil (.cut [0, 2, 3, 18, 24] [2, 3, 1000000] (.seq .nil (.cond .nil .nil)) (.cond (.seq .nil .nil) (.seq .nil (.cond .nil (.seq .nil (.cond (.seq .nil .nil) .nil)))))))))) (.seq (.seq .nil (.cond .nil .nil)) (.seq .nil .nil))))), [], [1000000], [.res (.cell 2 38) (.v (.pair (.int .i64) (.pair (.int .i64) (.int .i64)))), .box 1000000 0 (.v (.slice (.int .u8))), .box 1000000 1 (.v (.int .i64)), .box 1000000 2 (.v (.int .u64))]⟩
noncomputable def spec_l1Cur_clue.sp : CSpec := mkSpec spec_l1Cur_clue.g T spec_l1Cur_clue.i
theorem spec_l1Cur_clue.ok : SpecOk Tryz.prog I 62 spec_l1Cur_clue.sp := mkSpec_ok hmix hI spec_l1Cur_clue.gok tok spec_l1Cur_clue.i Tryz.func62 (by kernel_rfl) (by kernel_rfl) (by kernel_rfl) (by kernel_rfl)
noncomputable def spec_l1Cur_clue.f (x0_0 : List Int) (x0_1 : Int) (x0_2 : Int) : Option ((Int × Int × Int) × (List Int) × Int × Int) := run spec_l1Cur_clue.g T spec_l1Cur_clue.i [.bx [⟨(.slice (.int .u8)), x0_0⟩, ⟨(.int .i64), x0_1⟩, ⟨(.int .u64), x0_2⟩]]
noncomputable def spec_l1Cur_clue.j0 (xb2_0 : Int) (xb2_1 : Int) (xb2_2 : Int) (xb3_0 : Int) (xb3_1 : Int) (xb3_2 : Int) (x0_0 : List Int) (x0_1 : Int) (x0_2 : Int) : Option ((Int × Int × Int) × (List Int) × Int × Int) := runJ spec_l1Cur_clue.g T spec_l1Cur_clue.i [true, true, true] [(0, .ptr 1000000 0), (2, .ptr 2 0), (3, .ptr 3 0)] [(2, [⟨(.int .i64), xb2_0⟩, ⟨(.int .i64), xb2_1⟩, ⟨(.int .i64), xb2_2⟩]), (3, [⟨(.int .i64), xb3_0⟩, ⟨(.int .i64), xb3_1⟩, ⟨(.int .i64), xb3_2⟩]), (1000000, [⟨(.slice (.int .u8)), x0_0⟩, ⟨(.int .i64), x0_1⟩, ⟨(.int .u64), x0_2⟩])]
noncomputable def spec_l1Cur_clue.j1 (x18 : Int) (x24 : Bool) (xb2_0 : Int) (xb2_1 : Int) (xb2_2 : Int) (xb3_0 : Int) (xb3_1 : Int) (xb3_2 : Int) (x0_0 : List Int) (x0_1 : Int) (x0_2 : Int) : Option ((Int × Int × Int) × (List Int) × Int × Int) := runJ spec_l1Cur_clue.g T spec_l1Cur_clue.i [true, true, false, true, false, true, true, true] [(0, .ptr 1000000 0), (2, .ptr 2 0), (3, .ptr 3 0), (18, .val (.int .i64) x18), (24, .val .bool x24)] [(2, [⟨(.int .i64), xb2_0⟩, ⟨(.int .i64), xb2_1⟩, ⟨(.int .i64), xb2_2⟩]), (3, [⟨(.int .i64), xb3_0⟩, ⟨(.int .i64), xb3_1⟩, ⟨(.int .i64), xb3_2⟩]), (1000000, [⟨(.slice (.int .u8)), x0_0⟩, ⟨(.int .i64), x0_1⟩, ⟨(.int .u64), x0_2⟩])]
theorem spec_l1Cur_clue.f.eq (x0_0 : List Int) (x0_1 : Int) (x0_2 : Int) : spec_l1Cur_clue.f x0_0 x0_1 x0_2 =
  (spec_l1Cur_pick.f x0_0 x0_1 x0_2 7).bind fun y1 =>
  (spec_l1Cur_pick.f y1.2.1 y1.2.2.1 y1.2.2.2 9).bind fun y2 =>
  let y4 := IntKind.i64.wrap (y1.1 + (IntKind.i64.wrap (y2.1.tdiv 8)))
  (spec_l1Cur_pick.f y2.2.1 y2.2.2.1 y2.2.2.2 24).bind fun y5 =>
  (spec_l1Cur_pick.f y5.2.1 y5.2.2.1 y5.2.2.2 9).bind fun y6 =>
  let y8 := IntKind.i64.wrap (y5.1 - (IntKind.i64.wrap (y6.1.tdiv 8)))
  if (y4 == 1) = true then
    (spec_l1Cur_pick.f y6.2.1 y6.2.2.1 y6.2.2.2 4).bind fun y9 =>
    spec_l1Cur_clue.j0 0 0 0 y4 y9.1 y8 y9.2.1 y9.2.2.1 y9.2.2.2
  else
    if (y4 == 3) = true then
      spec_l1Cur_clue.j1 y4 (y4 == 3) 0 0 0 y4 0 y8 y6.2.1 y6.2.2.1 y6.2.2.2
    else
      spec_l1Cur_clue.j1 y4 (y4 == 5) 0 0 0 y4 0 y8 y6.2.1 y6.2.2.1 y6.2.2.2 := by kernel_rfl
theorem spec_l1Cur_clue.j0.eq (xb2_0 : Int) (xb2_1 : Int) (xb2_2 : Int) (xb3_0 : Int) (xb3_1 : Int) (xb3_2 : Int) (x0_0 : List Int) (x0_1 : Int) (x0_2 : Int) : spec_l1Cur_clue.j0 xb2_0 xb2_1 xb2_2 xb3_0 xb3_1 xb3_2 x0_0 x0_1 x0_2 =
  (spec_l1Cur_one.f x0_0 x0_1 x0_2 14).bind fun y1 =>
  if y1.1 = true then
    (spec_l1Cur_pick.f y1.2.1 y1.2.2.1 y1.2.2.2 3).bind fun y2 =>
    some ((xb3_0, (IntKind.i64.wrap (y2.1 - 1)), xb3_2), y2.2.1, y2.2.2.1, y2.2.2.2)
  else
    some ((xb3_0, xb3_1, xb3_2), y1.2.1, y1.2.2.1, y1.2.2.2) := (runJ_eq _ _ _ _ _ _).trans (by kernel_rfl)
theorem spec_l1Cur_clue.j1.eq (x18 : Int) (x24 : Bool) (xb2_0 : Int) (xb2_1 : Int) (xb2_2 : Int) (xb3_0 : Int) (xb3_1 : Int) (xb3_2 : Int) (x0_0 : List Int) (x0_1 : Int) (x0_2 : Int) : spec_l1Cur_clue.j1 x18 x24 xb2_0 xb2_1 xb2_2 xb3_0 xb3_1 xb3_2 x0_0 x0_1 x0_2 =
  if x24 = true then
    (spec_l1Cur_pick.f x0_0 x0_1 x0_2 4).bind fun y1 =>
    (spec_l1Cur_pick.f y1.2.1 y1.2.2.1 y1.2.2.2 3).bind fun y2 =>
    spec_l1Cur_clue.j0 xb2_0 xb2_1 xb2_2 xb3_0 y1.1 y2.1 y2.2.1 y2.2.2.1 y2.2.2.2
  else
    if (x18 == 4) = true then
      (spec_l1Cur_pick.f x0_0 x0_1 x0_2 4).bind fun y3 =>
      spec_l1Cur_clue.j0 xb2_0 xb2_1 xb2_2 xb3_0 xb3_1 y3.1 y3.2.1 y3.2.2.1 y3.2.2.2
    else
      if (x18 == 6) = true then
        (spec_l1Cur_pick.f x0_0 x0_1 x0_2 11).bind fun y4 =>
        (spec_l1Cur_pick.f y4.2.1 y4.2.2.1 y4.2.2.2 10).bind fun y5 =>
        spec_l1Cur_clue.j0 xb2_0 xb2_1 xb2_2 xb3_0 y4.1 (IntKind.i64.wrap (1 + y5.1)) y5.2.1 y5.2.2.1 y5.2.2.2
      else
        spec_l1Cur_clue.j0 xb2_0 xb2_1 xb2_2 xb3_0 xb3_1 xb3_2 x0_0 x0_1 x0_2 := (runJ_eq _ _ _ _ _ _).trans (by kernel_rfl)
noncomputable def spec_l1Cur_puzzle.g : Gam := [(78, spec_l1Cur_surePuzzle.sp), (35, spec_l1Cur_pick.sp), (34, spec_l1Cur_among.sp), (62, spec_l1Cur_clue.sp)]
theorem spec_l1Cur_puzzle.gok : GOkI Tryz.prog I spec_l1Cur_puzzle.g := ((((GOkI.nil _ _).cons spec_l1Cur_clue.ok).cons spec_l1Cur_among.ok).cons spec_l1Cur_pick.ok).cons spec_l1Cur_surePuzzle.ok
noncomputable def spec_l1Cur_puzzle.i : FI := ⟨Tryz.f52, body Tryz.f52, (.seq .nil (.seq .nil (.seq (.seq .nil (.blk (.seq .nil (.cond .nil (.cut [0, 2, 3, 7, 14] [2, 3, 1000000] (.seq .nil (.cond .nil .nil)) (.cond .nil (.seq .nil (.cond (.blk (.loop [0, 2, 3] [2, 3, 1000000] (.seq (.seq .nil (.cond .nil .nil)) (.blk .nil)))) .nil)))))))) (.seq .nil .nil)))), [4000027], [1000000], [.res (.cell 2 29) (.v (.pair (.int .i64) (.slice (.pair (.int .i64) (.pair (.int .i64) (.int .i64)))))), .box 1000000 0 (.v (.slice (.int .u8))), .box 1000000 1 (.v (.int .i64)), .box 1000000 2 (.v (.int .u64))]⟩
noncomputable def spec_l1Cur_puzzle.sp : CSpec := mkSpec spec_l1Cur_puzzle.g T spec_l1Cur_puzzle.i
theorem spec_l1Cur_puzzle.ok : SpecOk Tryz.prog I 52 spec_l1Cur_puzzle.sp := mkSpec_ok hmix hI spec_l1Cur_puzzle.gok tok spec_l1Cur_puzzle.i Tryz.func52 (by kernel_rfl) (by kernel_rfl) (by kernel_rfl) (by kernel_rfl)
noncomputable def spec_l1Cur_puzzle.f (x0_0 : List Int) (x0_1 : Int) (x0_2 : Int) : Option ((Int × (List (Int × Int × Int))) × (List Int) × Int × Int) := run spec_l1Cur_puzzle.g T spec_l1Cur_puzzle.i [.bx [⟨(.slice (.int .u8)), x0_0⟩, ⟨(.int .i64), x0_1⟩, ⟨(.int .u64), x0_2⟩]]
noncomputable def spec_l1Cur_puzzle.j0 (x7 : Int) (x14 : Bool) (xb2_0 : Int) (xb2_1 : List (Int × Int × Int)) (xb3_0 : Int) (xb3_1 : List (Int × Int × Int)) (x0_0 : List Int) (x0_1 : Int) (x0_2 : Int) : Option ((Int × (List (Int × Int × Int))) × (List Int) × Int × Int) := runJ spec_l1Cur_puzzle.g T spec_l1Cur_puzzle.i [true, true, false, true, false, true, true, true] [(0, .ptr 1000000 0), (2, .ptr 2 0), (3, .ptr 3 0), (7, .val (.int .i64) x7), (14, .val .bool x14)] [(2, [⟨(.int .i64), xb2_0⟩, ⟨(.slice (.pair (.int .i64) (.pair (.int .i64) (.int .i64)))), xb2_1⟩]), (3, [⟨(.int .i64), xb3_0⟩, ownV 38 (.pair (.int .i64) (.pair (.int .i64) (.int .i64))) xb3_1]), (1000000, [⟨(.slice (.int .u8)), x0_0⟩, ⟨(.int .i64), x0_1⟩, ⟨(.int .u64), x0_2⟩])]
noncomputable def spec_l1Cur_puzzle.l0 (xb2_0 : Int) (xb2_1 : List (Int × Int × Int)) (xb3_0 : Int) (xb3_1 : List (Int × Int × Int)) (x0_0 : List Int) (x0_1 : Int) (x0_2 : Int) : Option ((Int × (List (Int × Int × Int))) × (List Int) × Int × Int) := runAt spec_l1Cur_puzzle.g T spec_l1Cur_puzzle.i [true, true, false, true, false, true, true, true, true, true, false, false] [(0, .ptr 1000000 0), (2, .ptr 2 0), (3, .ptr 3 0)] [(2, [⟨(.int .i64), xb2_0⟩, ⟨(.slice (.pair (.int .i64) (.pair (.int .i64) (.int .i64)))), xb2_1⟩]), (3, [⟨(.int .i64), xb3_0⟩, ownV 38 (.pair (.int .i64) (.pair (.int .i64) (.int .i64))) xb3_1]), (1000000, [⟨(.slice (.int .u8)), x0_0⟩, ⟨(.int .i64), x0_1⟩, ⟨(.int .u64), x0_2⟩])]
theorem spec_l1Cur_puzzle.f.eq (x0_0 : List Int) (x0_1 : Int) (x0_2 : Int) : spec_l1Cur_puzzle.f x0_0 x0_1 x0_2 =
  (spec_l1Cur_surePuzzle.f x0_0 x0_1 x0_2 4).bind fun y1 =>
  (spec_l1Cur_pick.f y1.2.1 y1.2.2.1 y1.2.2.2 10).bind fun y2 =>
  if (y2.1 == 0) = true then
    (spec_l1Cur_among.f y2.2.1 y2.2.2.1 y2.2.2.2 [(-1), 0, 1, 2, 3, 4, 4611686018427387904]).bind fun y4 =>
    some ((y4.1, y1.1.2), y4.2.1, y4.2.2.1, y4.2.2.2)
  else
    if (y2.1 == 1) = true then
      spec_l1Cur_puzzle.j0 y2.1 (y2.1 == 1) 0 [] y1.1.1 y1.1.2 y2.2.1 y2.2.2.1 y2.2.2.2
    else
      spec_l1Cur_puzzle.j0 y2.1 (y2.1 == 2) 0 [] y1.1.1 y1.1.2 y2.2.1 y2.2.2.1 y2.2.2.2 := by kernel_rfl
theorem spec_l1Cur_puzzle.j0.eq (x7 : Int) (x14 : Bool) (xb2_0 : Int) (xb2_1 : List (Int × Int × Int)) (xb3_0 : Int) (xb3_1 : List (Int × Int × Int)) (x0_0 : List Int) (x0_1 : Int) (x0_2 : Int) : spec_l1Cur_puzzle.j0 x7 x14 xb2_0 xb2_1 xb3_0 xb3_1 x0_0 x0_1 x0_2 =
  if x14 = true then
    (spec_l1Cur_clue.f x0_0 x0_1 x0_2).bind fun y1 =>
    (catI (appMax 24) xb3_1 [y1.1]).bind fun y2 =>
    some ((xb3_0, y2), y1.2.1, y1.2.2.1, y1.2.2.2)
  else
    if (x7 == 3) = true then
      spec_l1Cur_puzzle.l0 xb2_0 xb2_1 xb3_0 xb3_1 x0_0 x0_1 x0_2
    else
      some ((xb3_0, xb3_1), x0_0, x0_1, x0_2) := (runJ_eq _ _ _ _ _ _).trans (by kernel_rfl)
theorem spec_l1Cur_puzzle.l0.eq (xb2_0 : Int) (xb2_1 : List (Int × Int × Int)) (xb3_0 : Int) (xb3_1 : List (Int × Int × Int)) (x0_0 : List Int) (x0_1 : Int) (x0_2 : Int) : spec_l1Cur_puzzle.l0 xb2_0 xb2_1 xb3_0 xb3_1 x0_0 x0_1 x0_2 =
  (spec_l1Cur_pick.f x0_0 x0_1 x0_2 2).bind fun y2 =>
  if (decide ((xb3_1.length : Int) < (IntKind.i64.wrap (6 + y2.1)))) = true then
    (catI (appMax 24) xb3_1 [(0, 0, 12)]).bind fun y5 =>
    spec_l1Cur_puzzle.l0 xb2_0 xb2_1 xb3_0 y5 y2.2.1 y2.2.2.1 y2.2.2.2
  else
    some ((xb3_0, xb3_1), y2.2.1, y2.2.2.1, y2.2.2.2) := (runAt_loop _ _ _ _ _ _).trans (by kernel_rfl)
noncomputable def spec_DrawHarderPuzzle.g : Gam := [(32, spec_l1Cur_one.sp), (52, spec_l1Cur_puzzle.sp), (33, spec_l1Cur_hidden.sp), (35, spec_l1Cur_pick.sp), (7, spec_MakePuzzle.sp), (43, spec_pzOf.sp)]
theorem spec_DrawHarderPuzzle.gok : GOkI Tryz.prog I spec_DrawHarderPuzzle.g := ((((((GOkI.nil _ _).cons spec_pzOf.ok).cons spec_MakePuzzle.ok).cons spec_l1Cur_pick.ok).cons spec_l1Cur_hidden.ok).cons spec_l1Cur_puzzle.ok).cons spec_l1Cur_one.ok
noncomputable def spec_DrawHarderPuzzle.i : FI := ⟨Tryz.f14, body Tryz.f14, (.seq .nil (.seq .nil (.seq (.seq .nil (.cond (.seq .nil .nil) .nil)) (.seq .nil (.seq .nil (.seq (.seq .nil (.blk (.loop [2, 4, 5, 27, 28] [2, 5] (.seq .nil (.seq (.cond .nil .nil) (.seq (.blk (.seq .nil .nil)) .nil)))))) (.seq .nil .nil))))))), [5000024], [], [.res (.cell 2 29) (.v (.pair (.int .i64) (.slice (.pair (.int .i64) (.pair (.int .i64) (.int .i64))))))]⟩
noncomputable def spec_DrawHarderPuzzle.sp : CSpec := mkSpec spec_DrawHarderPuzzle.g T spec_DrawHarderPuzzle.i
theorem spec_DrawHarderPuzzle.ok : SpecOk Tryz.prog I 14 spec_DrawHarderPuzzle.sp := mkSpec_ok hmix hI spec_DrawHarderPuzzle.gok tok spec_DrawHarderPuzzle.i Tryz.func14 (by kernel_rfl) (by kernel_rfl) (by kernel_rfl) (by kernel_rfl)
noncomputable def spec_DrawHarderPuzzle.f (x0 : List Int) : Option (Int × (List (Int × Int × Int))) := run spec_DrawHarderPuzzle.g T spec_DrawHarderPuzzle.i [.v (.slice (.int .u8)) x0]
noncomputable def spec_DrawHarderPuzzle.l0 (x4 : List Int) (x27 : Int) (x28 : Int) (xb2_0 : Int) (xb2_1 : List (Int × Int × Int)) (xb5_0 : Int) (xb5_1 : List (Int × Int × Int)) : Option (Int × (List (Int × Int × Int))) := runAt spec_DrawHarderPuzzle.g T spec_DrawHarderPuzzle.i [true, true, true, true, true, false, true, false] [(2, .ptr 2 0), (4, .own 3 (.int .i64) x4), (5, .ptr 5 0), (27, .val (.int .i64) x27), (28, .val (.int .i64) x28)] [(2, [⟨(.int .i64), xb2_0⟩, ⟨(.slice (.pair (.int .i64) (.pair (.int .i64) (.int .i64)))), xb2_1⟩]), (5, [⟨(.int .i64), xb5_0⟩, ownV 38 (.pair (.int .i64) (.pair (.int .i64) (.int .i64))) xb5_1])]
theorem spec_DrawHarderPuzzle.f.eq (x0 : List Int) : spec_DrawHarderPuzzle.f x0 =
  (spec_l1Cur_one.f x0 0 0 4).bind fun y1 =>
  if y1.1 = true then
    (spec_l1Cur_puzzle.f y1.2.1 y1.2.2.1 y1.2.2.2).bind fun y2 =>
    some (y2.1.1, y2.1.2)
  else
    (spec_l1Cur_hidden.f y1.2.1 y1.2.2.1 y1.2.2.2).bind fun y3 =>
    (spec_l1Cur_pick.f y3.2.1 y3.2.2.1 y3.2.2.2 3).bind fun y4 =>
    (spec_l1Cur_pick.f y4.2.1 y4.2.2.1 y4.2.2.2 10000).bind fun y5 =>
    (spec_MakePuzzle.f y3.1 y4.1 y5.1).bind fun y6 =>
    spec_DrawHarderPuzzle.l0 y3.1 (y3.1.length : Int) 0 0 [] y6.1.1 y6.1.2 := by kernel_rfl
theorem spec_DrawHarderPuzzle.l0.eq (x4 : List Int) (x27 : Int) (x28 : Int) (xb2_0 : Int) (xb2_1 : List (Int × Int × Int)) (xb5_0 : Int) (xb5_1 : List (Int × Int × Int)) : spec_DrawHarderPuzzle.l0 x4 x27 x28 xb2_0 xb2_1 xb5_0 xb5_1 =
  if (decide (x28 < x27)) = true then
    (spec_pzOf.f 1 x28 x4).bind fun y2 =>
    (catI (appMax 24) xb5_1 [y2]).bind fun y3 =>
    spec_DrawHarderPuzzle.l0 x4 x27 (IntKind.i64.wrap (x28 + 1)) xb2_0 xb2_1 xb5_0 y3
  else
    some (xb5_0, xb5_1) := (runAt_loop _ _ _ _ _ _).trans (by kernel_rfl)
noncomputable def slices_Clone.g : Gam := []
theorem slices_Clone.gok : GOkI Tryz.prog I slices_Clone.g := GOkI.nil _ _
noncomputable def slices_Clone.i : FI := ⟨Tryz.f81, body Tryz.f81, (.seq .nil (.seq (.seq .nil (.cond (.seq .nil .nil) .nil)) (.seq .nil .nil))), [], [], [.res (.tmp 2) (.own 3 (.int .i64))]⟩
noncomputable def slices_Clone.sp : CSpec := mkSpecN slices_Clone.g T slices_Clone.i
theorem slices_Clone.ok : SpecOk Tryz.prog I 81 slices_Clone.sp := mkSpecN_ok hI slices_Clone.gok tok slices_Clone.i Tryz.func81 (by kernel_rfl) (by kernel_rfl) (by kernel_rfl) (by kernel_rfl)
noncomputable def slices_Clone.f (x0 : List Int) : Option (List Int) := Go.Proofs.YtbmbejbhlcadmaaGreat.Eng.runN slices_Clone.g T slices_Clone.i [.v (.slice (.int .i64)) x0]
theorem slices_Clone.f.eq (x0 : List Int) : slices_Clone.f x0 =
  nilT x0 (
    some []) (
    (catI (appMax 8) [] x0).bind fun y1 =>
    some y1) := by kernel_rfl
noncomputable def impl_solutions_1.g : Gam := [(81, slices_Clone.sp), (50, slices_ContainsFunc_50.sp), (82, impl_solutions_1_1.sp)]
theorem impl_solutions_1.gok : GOkI Tryz.prog I impl_solutions_1.g := (((GOkI.nil _ _).cons impl_solutions_1_1.ok).cons slices_ContainsFunc_50.ok).cons slices_Clone.ok
noncomputable def impl_solutions_1.i : FI := ⟨Tryz.f80, body Tryz.f80, (.seq .nil (.seq (.seq .nil (.cond (.seq (.seq .nil (.blk (.loop [2, 5, 6] [5, 1000001, 1000003, 1000004] (.seq (.seq .nil (.cond .nil .nil)) (.seq (.blk .nil) .nil))))) .nil) .nil)) (.seq .nil (.cond .nil .nil)))), [], [1000001, 1000003, 1000004], [.box 1000001 0 (.v (.int .i64)), .box 1000003 0 (.v (.slice (.pair (.int .i64) (.pair (.int .i64) (.int .i64))))), .box 1000004 0 (.own 24 (.slice (.int .i64)))]⟩
noncomputable def impl_solutions_1.sp : CSpec := limSpec impl_solutions_1.g T impl_solutions_1.i 80
theorem impl_solutions_1.ok : SpecOk Tryz.prog I 80 impl_solutions_1.sp := limSpec_ok hmix hI impl_solutions_1.gok tok impl_solutions_1.i Tryz.func80 (by kernel_rfl) (by kernel_rfl) (by kernel_rfl) (by kernel_rfl)
noncomputable def impl_solutions_1.r (k : Nat) (x0 : List Int) (x1_0 : Int) (x3_0 : List (Int × Int × Int)) (x4_0 : List (List Int)) : Option (Int × (List (Int × Int × Int)) × (List (List Int))) := recO impl_solutions_1.g T impl_solutions_1.i 80 k [.v (.slice (.int .i64)) x0, .bx [⟨(.int .i64), x1_0⟩], .fp 98 80 [some 1000001, none, some 1000003, some 1000004], .bx [⟨(.slice (.pair (.int .i64) (.pair (.int .i64) (.int .i64)))), x3_0⟩], .bx [ownV 24 (.slice (.int .i64)) x4_0]]
noncomputable def impl_solutions_1.f (x0 : List Int) (x1_0 : Int) (x3_0 : List (Int × Int × Int)) (x4_0 : List (List Int)) : Option (Int × (List (Int × Int × Int)) × (List (List Int))) := lim fun k => impl_solutions_1.r k x0 x1_0 x3_0 x4_0
noncomputable def impl_solutions_1.l0 (k : Nat) (x6 : Int) (xb5_0 : List Int) (x1_0 : Int) (x3_0 : List (Int × Int × Int)) (x4_0 : List (List Int)) : Option (Int × (List (Int × Int × Int)) × (List (List Int))) := runAt ((80, recSpec impl_solutions_1.g T impl_solutions_1.i 80 k) :: impl_solutions_1.g) T impl_solutions_1.i [true, false, true, false, false, true, false] [(2, .fp 98 80 [some 1000001, none, some 1000003, some 1000004]), (5, .ptr 5 0), (6, .val (.int .i64) x6)] [(5, [⟨(.slice (.int .i64)), xb5_0⟩]), (1000001, [⟨(.int .i64), x1_0⟩]), (1000003, [⟨(.slice (.pair (.int .i64) (.pair (.int .i64) (.int .i64)))), x3_0⟩]), (1000004, [ownV 24 (.slice (.int .i64)) x4_0])]
theorem impl_solutions_1.r.eq (k : Nat) (x0 : List Int) (x1_0 : Int) (x3_0 : List (Int × Int × Int)) (x4_0 : List (List Int)) : impl_solutions_1.r (k + 1) x0 x1_0 x3_0 x4_0 =
  if (decide ((x0.length : Int) < x1_0)) = true then
    impl_solutions_1.l0 k 1 x0 x1_0 x3_0 x4_0
  else
    (slices_ContainsFunc_50_v1.f x3_0 x0).bind fun y6 =>
    if (!y6) = true then
      (catI (appMax 24) x4_0 [x0]).bind fun y7 =>
      some (x1_0, x3_0, y7)
    else
      some (x1_0, x3_0, x4_0) := by kernel_rfl
theorem impl_solutions_1.l0.eq (k : Nat) (x6 : Int) (xb5_0 : List Int) (x1_0 : Int) (x3_0 : List (Int × Int × Int)) (x4_0 : List (List Int)) : impl_solutions_1.l0 k x6 xb5_0 x1_0 x3_0 x4_0 =
  if (decide (x6 ≤ 12)) = true then
    (slices_Clone.f xb5_0).bind fun y2 =>
    (catI (appMax 8) y2 [x6]).bind fun y3 =>
    (impl_solutions_1.r k y3 x1_0 x3_0 x4_0).bind fun y4 =>
    impl_solutions_1.l0 k (IntKind.i64.wrap (x6 + 1)) xb5_0 y4.1 y4.2.1 y4.2.2
  else
    some (x1_0, x3_0, x4_0) := (runAt_loop _ _ _ _ _ _).trans (by kernel_rfl)
end Go.Proofs.YtbmbejbhlcadmaaGreat.S
