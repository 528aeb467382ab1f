/- What the functions of this seat come to, over plain values. No condition. -/
import Derived.Test.YtobblofdkpljfaaGreatDoorK0
namespace Go.Proofs.YtobblofdkpljfaaGreatDoor.S
open Go Go.Proofs.YtobblofdkpljfaaGreatDoor.Eng Go.Proofs
set_option maxRecDepth 1000000
set_option linter.unusedVariables false
noncomputable def impl_OlderOf_1.g : Gam := [(60, impl_Date_index.sp)]
theorem impl_OlderOf_1.gok : GOkI Tryz.prog I impl_OlderOf_1.g := (GOkI.nil _ _).cons impl_Date_index.ok
noncomputable def impl_OlderOf_1.i : FI := ⟨Tryz.f59, body Tryz.f59, (.seq .nil (.seq .nil .nil)), [], [], [.res (.tmp 5) (.v (.int .i64))]⟩
noncomputable def impl_OlderOf_1.sp : CSpec := mkSpec impl_OlderOf_1.g T impl_OlderOf_1.i
theorem impl_OlderOf_1.ok : SpecOk Tryz.prog I 59 impl_OlderOf_1.sp := mkSpec_ok hmix hI impl_OlderOf_1.gok tok impl_OlderOf_1.i Tryz.func59 (by kernel_rfl) (by kernel_rfl) (by kernel_rfl) (by kernel_rfl)
noncomputable def impl_OlderOf_1.f (x0 : Int) (x1 : Int) (x2 : List (Int × Int)) : Option (Int) := run impl_OlderOf_1.g T impl_OlderOf_1.i [.v (.int .i64) x0, .v (.int .i64) x1, .cr (.slice (.pair (.int .i64) (.int .i64))) x2]
theorem impl_OlderOf_1.f.eq (x0 : Int) (x1 : Int) (x2 : List (Int × Int)) : impl_OlderOf_1.f x0 x1 x2 =
  (rdI x2 x0).bind fun y1 =>
  (impl_Date_index.f y1).bind fun y2 =>
  (rdI x2 x1).bind fun y3 =>
  (impl_Date_index.f y3).bind fun y4 =>
  some (IntKind.i64.wrap (y2 - y4)) := by kernel_rfl
noncomputable def slices_insertionSortCmpFunc.g : Gam := [(59, impl_OlderOf_1.sp)]
theorem slices_insertionSortCmpFunc.gok : GOkI Tryz.prog I slices_insertionSortCmpFunc.g := (GOkI.nil _ _).cons impl_OlderOf_1.ok
noncomputable def slices_insertionSortCmpFunc.i : FI := ⟨Tryz.f93, body Tryz.f93, (.seq .nil (.blk (.loop [0, 1, 2, 3, 8] [1000000] (.seq (.seq .nil (.cond .nil .nil)) (.seq (.blk (.seq .nil (.blk (.loop [0, 1, 2, 3, 8, 9] [1000000] (.seq (.seq .nil (.cond .nil .nil)) (.seq (.blk .nil) .nil)))))) .nil))))), [], [1000000], [.box 1000000 0 (.pair .unit (.slice (.int .i64)))]⟩
noncomputable def slices_insertionSortCmpFunc.sp : CSpec := mkSpec slices_insertionSortCmpFunc.g T slices_insertionSortCmpFunc.i
theorem slices_insertionSortCmpFunc.ok : SpecOk Tryz.prog I 93 slices_insertionSortCmpFunc.sp := mkSpec_ok hmix hI slices_insertionSortCmpFunc.gok tok slices_insertionSortCmpFunc.i Tryz.func93 (by kernel_rfl) (by kernel_rfl) (by kernel_rfl) (by kernel_rfl)
noncomputable def slices_insertionSortCmpFunc.f (x0_l : Nat) (x0 : List Int) (x1 : Int) (x2 : Int) (x3_0 : List (Int × Int)) : Option (Unit × (List Int)) := run slices_insertionSortCmpFunc.g T slices_insertionSortCmpFunc.i [.io x0_l (.int .i64) x0, .v (.int .i64) x1, .v (.int .i64) x2, .clo (closure impl_OlderOf_1.sp [.cr (.slice (.pair (.int .i64) (.int .i64))) x3_0])]
noncomputable def slices_insertionSortCmpFunc.l0 (x0l : Nat) (x1 : Int) (x2 : Int) (x3_0 : List (Int × Int)) (x8 : Int) (x0_0 : List Int) : Option (Unit × (List Int)) := runAt slices_insertionSortCmpFunc.g T slices_insertionSortCmpFunc.i [true, false] [(0, .rref 1000000 x0l (.int .i64)), (1, .val (.int .i64) x1), (2, .val (.int .i64) x2), (3, .clo (closure impl_OlderOf_1.sp [.cr (.slice (.pair (.int .i64) (.int .i64))) x3_0])), (8, .val (.int .i64) x8)] [(1000000, [⟨(.pair .unit (.slice (.int .i64))), ((), x0_0)⟩])]
noncomputable def slices_insertionSortCmpFunc.l1 (x0l : Nat) (x1 : Int) (x2 : Int) (x3_0 : List (Int × Int)) (x8 : Int) (x9 : Int) (x0_0 : List Int) : Option (Unit × (List Int)) := runAt slices_insertionSortCmpFunc.g T slices_insertionSortCmpFunc.i [true, false, false, true, false, false, true, false] [(0, .rref 1000000 x0l (.int .i64)), (1, .val (.int .i64) x1), (2, .val (.int .i64) x2), (3, .clo (closure impl_OlderOf_1.sp [.cr (.slice (.pair (.int .i64) (.int .i64))) x3_0])), (8, .val (.int .i64) x8), (9, .val (.int .i64) x9)] [(1000000, [⟨(.pair .unit (.slice (.int .i64))), ((), x0_0)⟩])]
theorem slices_insertionSortCmpFunc.f.eq (x0_l : Nat) (x0 : List Int) (x1 : Int) (x2 : Int) (x3_0 : List (Int × Int)) : slices_insertionSortCmpFunc.f x0_l x0 x1 x2 x3_0 =
  slices_insertionSortCmpFunc.l0 x0_l x1 x2 x3_0 (IntKind.i64.wrap (x1 + 1)) x0 := by kernel_rfl
theorem slices_insertionSortCmpFunc.l0.eq (x0l : Nat) (x1 : Int) (x2 : Int) (x3_0 : List (Int × Int)) (x8 : Int) (x0_0 : List Int) : slices_insertionSortCmpFunc.l0 x0l x1 x2 x3_0 x8 x0_0 =
  if (decide (x8 < x2)) = true then
    slices_insertionSortCmpFunc.l1 x0l x1 x2 x3_0 x8 x8 x0_0
  else
    some ((), x0_0) := (runAt_loop _ _ _ _ _ _).trans (by kernel_rfl)
theorem slices_insertionSortCmpFunc.l1.eq (x0l : Nat) (x1 : Int) (x2 : Int) (x3_0 : List (Int × Int)) (x8 : Int) (x9 : Int) (x0_0 : List Int) : slices_insertionSortCmpFunc.l1 x0l x1 x2 x3_0 x8 x9 x0_0 =
  if (decide (x9 > x1)) = true then
    if 0 ≤ x9 then
      if x9 < (x0l : Int) then
        (rdI x0_0 x9).bind fun y2 =>
        let y3 := IntKind.i64.wrap (x9 - 1)
        if 0 ≤ y3 then
          if y3 < (x0l : Int) then
            (rdI x0_0 y3).bind fun y4 =>
            ((impl_OlderOf_1.f y2 y4 x3_0).bind some).bind fun y5 =>
            if (if true = true then (decide (y5 < 0)) else false) = true then
              let y8 := IntKind.i64.wrap (x9 - 1)
              let y9 := IntKind.i64.wrap (x9 - 1)
              if 0 ≤ y9 then
                if y9 < (x0l : Int) then
                  (rdI x0_0 y9).bind fun y10 =>
                  if 0 ≤ x9 then
                    if x9 < (x0l : Int) then
                      (rdI x0_0 x9).bind fun y11 =>
                      if 0 ≤ x9 then
                        if x9 < (x0l : Int) then
                          (rdI x0_0 x9).bind fun _ =>
                          if 0 ≤ y8 then
                            if y8 < (x0l : Int) then
                              (rdI (x0_0.set x9.toNat y10) y8).bind fun _ =>
                              slices_insertionSortCmpFunc.l1 x0l x1 x2 x3_0 x8 (IntKind.i64.wrap (x9 - 1)) ((x0_0.set x9.toNat y10).set y8.toNat y11)
                            else
                              none
                          else
                            none
                        else
                          none
                      else
                        none
                    else
                      none
                  else
                    none
                else
                  none
              else
                none
            else
              slices_insertionSortCmpFunc.l0 x0l x1 x2 x3_0 (IntKind.i64.wrap (x8 + 1)) x0_0
          else
            none
        else
          none
      else
        none
    else
      none
  else
    slices_insertionSortCmpFunc.l0 x0l x1 x2 x3_0 (IntKind.i64.wrap (x8 + 1)) x0_0 := (runAt_loop _ _ _ _ _ _).trans (by kernel_rfl)
noncomputable def slices_stableCmpFunc.g : Gam := [(93, slices_insertionSortCmpFunc.sp)]
theorem slices_stableCmpFunc.gok : GOkI Tryz.prog I slices_stableCmpFunc.g := (GOkI.nil _ _).cons slices_insertionSortCmpFunc.ok
noncomputable def slices_stableCmpFunc.i : FI := ⟨Tryz.f80, body Tryz.f80, (.seq .nil (.seq .nil (.seq (.blk (.loop [0, 1, 2, 6, 7, 8] [1000000] (.seq (.seq .nil (.cond .nil .nil)) (.blk (.seq .nil (.seq .nil .nil)))))) (.seq .nil (.blk (.loop [0, 1, 2, 6] [1000000] (.seq (.seq .nil (.cond .nil .nil)) (.blk (.seq .nil (.seq (.blk (.loop [0, 1, 2, 6, 7, 8] [1000000] (.seq (.seq .nil (.cond .nil .nil)) (.blk (.seq .nil (.seq .nil .nil)))))) (.seq (.seq .nil (.seq .nil (.cond .nil .nil))) .nil))))))))))), [2000093], [1000000], [.box 1000000 0 (.pair .unit (.slice (.int .i64)))]⟩
noncomputable def slices_stableCmpFunc.sp : CSpec := mkSpec slices_stableCmpFunc.g T slices_stableCmpFunc.i
theorem slices_stableCmpFunc.ok : SpecOk Tryz.prog I 80 slices_stableCmpFunc.sp := mkSpec_ok hmix hI slices_stableCmpFunc.gok tok slices_stableCmpFunc.i Tryz.func80 (by kernel_rfl) (by kernel_rfl) (by kernel_rfl) (by kernel_rfl)
noncomputable def slices_stableCmpFunc.f (x0_l : Nat) (x0 : List Int) (x1 : Int) (x2_0 : List (Int × Int)) : Option (Unit × (List Int)) := run slices_stableCmpFunc.g T slices_stableCmpFunc.i [.io x0_l (.int .i64) x0, .v (.int .i64) x1, .clo (closure impl_OlderOf_1.sp [.cr (.slice (.pair (.int .i64) (.int .i64))) x2_0])]
noncomputable def slices_stableCmpFunc.l0 (x0l : Nat) (x1 : Int) (x2_0 : List (Int × Int)) (x6 : Int) (x7 : Int) (x8 : Int) (x0_0 : List Int) : Option (Unit × (List Int)) := runAt slices_stableCmpFunc.g T slices_stableCmpFunc.i [true, true, false, false] [(0, .rref 1000000 x0l (.int .i64)), (1, .val (.int .i64) x1), (2, .clo (closure impl_OlderOf_1.sp [.cr (.slice (.pair (.int .i64) (.int .i64))) x2_0])), (6, .val (.int .i64) x6), (7, .val (.int .i64) x7), (8, .val (.int .i64) x8)] [(1000000, [⟨(.pair .unit (.slice (.int .i64))), ((), x0_0)⟩])]
noncomputable def slices_stableCmpFunc.l1 (x0l : Nat) (x1 : Int) (x2_0 : List (Int × Int)) (x6 : Int) (x0_0 : List Int) : Option (Unit × (List Int)) := runAt slices_stableCmpFunc.g T slices_stableCmpFunc.i [true, true, true, true, false] [(0, .rref 1000000 x0l (.int .i64)), (1, .val (.int .i64) x1), (2, .clo (closure impl_OlderOf_1.sp [.cr (.slice (.pair (.int .i64) (.int .i64))) x2_0])), (6, .val (.int .i64) x6)] [(1000000, [⟨(.pair .unit (.slice (.int .i64))), ((), x0_0)⟩])]
noncomputable def slices_stableCmpFunc.l2 (x0l : Nat) (x1 : Int) (x2_0 : List (Int × Int)) (x6 : Int) (x7 : Int) (x8 : Int) (x0_0 : List Int) : Option (Unit × (List Int)) := runAt slices_stableCmpFunc.g T slices_stableCmpFunc.i [true, true, true, true, false, false, true, false, true, false, false] [(0, .rref 1000000 x0l (.int .i64)), (1, .val (.int .i64) x1), (2, .clo (closure impl_OlderOf_1.sp [.cr (.slice (.pair (.int .i64) (.int .i64))) x2_0])), (6, .val (.int .i64) x6), (7, .val (.int .i64) x7), (8, .val (.int .i64) x8)] [(1000000, [⟨(.pair .unit (.slice (.int .i64))), ((), x0_0)⟩])]
theorem slices_stableCmpFunc.f.eq (x0_l : Nat) (x0 : List Int) (x1 : Int) (x2_0 : List (Int × Int)) : slices_stableCmpFunc.f x0_l x0 x1 x2_0 =
  slices_stableCmpFunc.l0 x0_l x1 x2_0 20 0 20 x0 := by kernel_rfl
theorem slices_stableCmpFunc.l0.eq (x0l : Nat) (x1 : Int) (x2_0 : List (Int × Int)) (x6 : Int) (x7 : Int) (x8 : Int) (x0_0 : List Int) : slices_stableCmpFunc.l0 x0l x1 x2_0 x6 x7 x8 x0_0 =
  if (decide (x8 ≤ x1)) = true then
    (slices_insertionSortCmpFunc.f x0l x0_0 x7 x8 x2_0).bind fun y2 =>
    slices_stableCmpFunc.l0 x0l x1 x2_0 x6 x8 (IntKind.i64.wrap (x8 + x6)) y2.2
  else
    (slices_insertionSortCmpFunc.f x0l x0_0 x7 x1 x2_0).bind fun y4 =>
    slices_stableCmpFunc.l1 x0l x1 x2_0 x6 y4.2 := (runAt_loop _ _ _ _ _ _).trans (by kernel_rfl)
theorem slices_stableCmpFunc.l1.eq (x0l : Nat) (x1 : Int) (x2_0 : List (Int × Int)) (x6 : Int) (x0_0 : List Int) : slices_stableCmpFunc.l1 x0l x1 x2_0 x6 x0_0 =
  if (decide (x6 < x1)) = true then
    slices_stableCmpFunc.l2 x0l x1 x2_0 x6 0 (IntKind.i64.wrap (2 * x6)) x0_0
  else
    some ((), x0_0) := (runAt_loop _ _ _ _ _ _).trans (by kernel_rfl)
theorem slices_stableCmpFunc.l2.eq (x0l : Nat) (x1 : Int) (x2_0 : List (Int × Int)) (x6 : Int) (x7 : Int) (x8 : Int) (x0_0 : List Int) : slices_stableCmpFunc.l2 x0l x1 x2_0 x6 x7 x8 x0_0 =
  if (decide (x8 ≤ x1)) = true then
    none
  else
    if (decide ((IntKind.i64.wrap (x7 + x6)) < x1)) = true then
      none
    else
      slices_stableCmpFunc.l1 x0l x1 x2_0 (IntKind.i64.wrap (x6 * 2)) x0_0 := (runAt_loop _ _ _ _ _ _).trans (by kernel_rfl)
noncomputable def slices_SortStableFunc.g : Gam := [(80, slices_stableCmpFunc.sp)]
theorem slices_SortStableFunc.gok : GOkI Tryz.prog I slices_SortStableFunc.g := (GOkI.nil _ _).cons slices_stableCmpFunc.ok
noncomputable def slices_SortStableFunc.i : FI := ⟨Tryz.f58, body Tryz.f58, .nil, [2000080], [1000000], [.box 1000000 0 (.pair .unit (.slice (.int .i64)))]⟩
noncomputable def slices_SortStableFunc.sp : CSpec := mkSpec slices_SortStableFunc.g T slices_SortStableFunc.i
theorem slices_SortStableFunc.ok : SpecOk Tryz.prog I 58 slices_SortStableFunc.sp := mkSpec_ok hmix hI slices_SortStableFunc.gok tok slices_SortStableFunc.i Tryz.func58 (by kernel_rfl) (by kernel_rfl) (by kernel_rfl) (by kernel_rfl)
noncomputable def slices_SortStableFunc.f (x0_l : Nat) (x0 : List Int) (x1_0 : List (Int × Int)) : Option (Unit × (List Int)) := run slices_SortStableFunc.g T slices_SortStableFunc.i [.io x0_l (.int .i64) x0, .clo (closure impl_OlderOf_1.sp [.cr (.slice (.pair (.int .i64) (.int .i64))) x1_0])]
theorem slices_SortStableFunc.f.eq (x0_l : Nat) (x0 : List Int) (x1_0 : List (Int × Int)) : slices_SortStableFunc.f x0_l x0 x1_0 =
  (slices_stableCmpFunc.f x0_l x0 (x0_l : Int) x1_0).bind fun y2 =>
  some y2 := by kernel_rfl
noncomputable def impl_OlderOf.g : Gam := [(19, impl_AreBirthDates.sp), (58, slices_SortStableFunc.sp), (59, impl_OlderOf_1.sp)]
theorem impl_OlderOf.gok : GOkI Tryz.prog I impl_OlderOf.g := (((GOkI.nil _ _).cons impl_OlderOf_1.ok).cons slices_SortStableFunc.ok).cons impl_AreBirthDates.ok
noncomputable def impl_OlderOf.i : FI := ⟨Tryz.f11, body Tryz.f11, (.seq .nil (.seq (.seq .nil (.cond (.seq .nil .nil) .nil)) (.seq .nil (.seq (.seq .nil (.blk (.loop [1, 4, 11, 12] [1] (.seq .nil (.seq (.cond .nil .nil) (.seq (.blk (.seq .nil .nil)) .nil)))))) (.seq .nil (.seq .nil .nil)))))), [2000058], [], [.res (.tmp 2) (.v (.slice (.int .i64))), .res (.tmp 3) (.v .bool)]⟩
noncomputable def impl_OlderOf.sp : CSpec := mkSpec impl_OlderOf.g T impl_OlderOf.i
theorem impl_OlderOf.ok : SpecOk Tryz.prog I 11 impl_OlderOf.sp := mkSpec_ok hmix hI impl_OlderOf.gok tok impl_OlderOf.i Tryz.func11 (by kernel_rfl) (by kernel_rfl) (by kernel_rfl) (by kernel_rfl)
noncomputable def impl_OlderOf.f (x0 : List (Int × Int)) : Option ((List Int) × Bool) := run impl_OlderOf.g T impl_OlderOf.i [.v (.slice (.pair (.int .i64) (.int .i64))) x0]
noncomputable def impl_OlderOf.l0 (x4 : List Int) (x11 : Int) (x12 : Int) (xb1_0 : List (Int × Int)) : Option ((List Int) × Bool) := runAt impl_OlderOf.g T impl_OlderOf.i [true, true, true, false, true, false] [(1, .ptr 1 0), (4, .own 3 (.int .i64) x4), (11, .val (.int .i64) x11), (12, .val (.int .i64) x12)] [(1, [⟨(.slice (.pair (.int .i64) (.int .i64))), xb1_0⟩])]
theorem impl_OlderOf.f.eq (x0 : List (Int × Int)) : impl_OlderOf.f x0 =
  (impl_AreBirthDates.f x0).bind fun y1 =>
  if (!y1) = true then
    some ([], false)
  else
    impl_OlderOf.l0 [] (x0.length : Int) 0 x0 := by kernel_rfl
theorem impl_OlderOf.l0.eq (x4 : List Int) (x11 : Int) (x12 : Int) (xb1_0 : List (Int × Int)) : impl_OlderOf.l0 x4 x11 x12 xb1_0 =
  if (decide (x12 < x11)) = true then
    (catI (appMax 8) x4 [x12]).bind fun y2 =>
    impl_OlderOf.l0 y2 x11 (IntKind.i64.wrap (x12 + 1)) xb1_0
  else
    if 0 < x4.length then
      (slices_SortStableFunc.f x4.length x4 xb1_0).bind fun y4 =>
      if y4.2.length = x4.length then
        some (y4.2, true)
      else
        none
    else
      none := (runAt_loop _ _ _ _ _ _).trans (by kernel_rfl)
noncomputable def spec_l1Own.g : Gam := []
theorem spec_l1Own.gok : GOkI Tryz.prog I spec_l1Own.g := GOkI.nil _ _
noncomputable def spec_l1Own.i : FI := ⟨Tryz.f61, body Tryz.f61, (.seq .nil (.seq .nil .nil)), [], [], [.res (.tmp 2) (.own 3 (.int .i64))]⟩
noncomputable def spec_l1Own.sp : CSpec := mkSpec spec_l1Own.g T spec_l1Own.i
theorem spec_l1Own.ok : SpecOk Tryz.prog I 61 spec_l1Own.sp := mkSpec_ok hmix hI spec_l1Own.gok tok spec_l1Own.i Tryz.func61 (by kernel_rfl) (by kernel_rfl) (by kernel_rfl) (by kernel_rfl)
noncomputable def spec_l1Own.f (x0 : List Int) : Option (List Int) := run spec_l1Own.g T spec_l1Own.i [.v (.slice (.int .i64)) x0]
theorem spec_l1Own.f.eq (x0 : List Int) : spec_l1Own.f x0 =
  (catI (appMax 8) [] x0).bind fun y1 =>
  some y1 := by kernel_rfl
noncomputable def spec_OlderOf.g : Gam := [(54, spec_biGood.sp), (55, spec_biDays.sp), (61, spec_l1Own.sp)]
theorem spec_OlderOf.gok : GOkI Tryz.prog I spec_OlderOf.g := (((GOkI.nil _ _).cons spec_l1Own.ok).cons spec_biDays.ok).cons spec_biGood.ok
noncomputable def spec_OlderOf.i : FI := ⟨Tryz.f12, body Tryz.f12, (.seq .nil (.seq (.seq .nil (.cond (.seq .nil .nil) .nil)) (.seq .nil (.seq (.seq .nil (.blk (.loop [0, 4, 12, 13, 14] [] (.seq .nil (.seq (.cond .nil .nil) (.seq (.blk (.seq .nil (.seq .nil (.seq (.blk (.loop [0, 4, 5, 6, 7, 12, 13, 14] [6] (.seq (.seq .nil (.cond .nil .nil)) (.blk .nil)))) (.seq .nil .nil))))) .nil)))))) (.seq .nil .nil))))), [], [], [.res (.tmp 2) (.own 3 (.int .i64)), .res (.tmp 3) (.v .bool)]⟩
noncomputable def spec_OlderOf.sp : CSpec := mkSpec spec_OlderOf.g T spec_OlderOf.i
theorem spec_OlderOf.ok : SpecOk Tryz.prog I 12 spec_OlderOf.sp := mkSpec_ok hmix hI spec_OlderOf.gok tok spec_OlderOf.i Tryz.func12 (by kernel_rfl) (by kernel_rfl) (by kernel_rfl) (by kernel_rfl)
noncomputable def spec_OlderOf.f (x0 : List (Int × Int)) : Option ((List Int) × Bool) := run spec_OlderOf.g T spec_OlderOf.i [.v (.slice (.pair (.int .i64) (.int .i64))) x0]
noncomputable def spec_OlderOf.l0 (x0 : List (Int × Int)) (x4 : List Int) (x12 : List (Int × Int)) (x13 : Int) (x14 : Int) : Option ((List Int) × Bool) := runAt spec_OlderOf.g T spec_OlderOf.i [true, true, true, false, true, false] [(0, .val (.slice (.pair (.int .i64) (.int .i64))) x0), (4, .own 3 (.int .i64) x4), (12, .val (.slice (.pair (.int .i64) (.int .i64))) x12), (13, .val (.int .i64) x13), (14, .val (.int .i64) x14)] []
noncomputable def spec_OlderOf.l1 (x0 : List (Int × Int)) (x4 : List Int) (x5 : Int) (x7 : Int) (x12 : List (Int × Int)) (x13 : Int) (x14 : Int) (xb6_0 : Int) (xb6_1 : Int) : Option ((List Int) × Bool) := runAt spec_OlderOf.g T spec_OlderOf.i [true, true, true, false, true, false, false, true, true, false, false, true, true, false, false] [(0, .val (.slice (.pair (.int .i64) (.int .i64))) x0), (4, .own 3 (.int .i64) x4), (5, .val (.int .i64) x5), (6, .ptr 6 0), (7, .val (.int .i64) x7), (12, .val (.slice (.pair (.int .i64) (.int .i64))) x12), (13, .val (.int .i64) x13), (14, .val (.int .i64) x14)] [(6, [⟨(.int .i64), xb6_0⟩, ⟨(.int .i64), xb6_1⟩])]
theorem spec_OlderOf.f.eq (x0 : List (Int × Int)) : spec_OlderOf.f x0 =
  (spec_biGood.f x0).bind fun y1 =>
  if (!y1) = true then
    some ([], false)
  else
    spec_OlderOf.l0 x0 [] x0 (x0.length : Int) 0 := by kernel_rfl
theorem spec_OlderOf.l0.eq (x0 : List (Int × Int)) (x4 : List Int) (x12 : List (Int × Int)) (x13 : Int) (x14 : Int) : spec_OlderOf.l0 x0 x4 x12 x13 x14 =
  if (decide (x14 < x13)) = true then
    (rdI x12 x14).bind fun y2 =>
    spec_OlderOf.l1 x0 x4 x14 0 x12 x13 x14 y2.1 y2.2
  else
    some (x4, true) := (runAt_loop _ _ _ _ _ _).trans (by kernel_rfl)
theorem spec_OlderOf.l1.eq (x0 : List (Int × Int)) (x4 : List Int) (x5 : Int) (x7 : Int) (x12 : List (Int × Int)) (x13 : Int) (x14 : Int) (xb6_0 : Int) (xb6_1 : Int) : spec_OlderOf.l1 x0 x4 x5 x7 x12 x13 x14 xb6_0 xb6_1 =
  if (decide (x7 < (x4.length : Int))) = true then
    (rdI x4 x7).bind fun y3 =>
    (rdI x0 y3).bind fun y4 =>
    (spec_biDays.f y4).bind fun y5 =>
    (spec_biDays.f (xb6_0, xb6_1)).bind fun y6 =>
    if (if true = true then (decide (y5 ≤ y6)) else false) = true then
      spec_OlderOf.l1 x0 x4 x5 (IntKind.i64.wrap (x7 + 1)) x12 x13 x14 xb6_0 xb6_1
    else
      (subI x4 0 x7).bind fun y10 =>
      (spec_l1Own.f y10).bind fun y11 =>
      (catI (appMax 8) y11 [x5]).bind fun y12 =>
      (subI x4 x7 x4.length).bind fun y13 =>
      (catI (appMax 8) y12 y13).bind fun y14 =>
      spec_OlderOf.l0 x0 y14 x12 x13 (IntKind.i64.wrap (x14 + 1))
  else
    (subI x4 0 x7).bind fun y16 =>
    (spec_l1Own.f y16).bind fun y17 =>
    (catI (appMax 8) y17 [x5]).bind fun y18 =>
    (subI x4 x7 x4.length).bind fun y19 =>
    (catI (appMax 8) y18 y19).bind fun y20 =>
    spec_OlderOf.l0 x0 y20 x12 x13 (IntKind.i64.wrap (x14 + 1)) := (runAt_loop _ _ _ _ _ _).trans (by kernel_rfl)
noncomputable def impl_BirthdaysOf.g : Gam := [(19, impl_AreBirthDates.sp)]
theorem impl_BirthdaysOf.gok : GOkI Tryz.prog I impl_BirthdaysOf.g := (GOkI.nil _ _).cons impl_AreBirthDates.ok
noncomputable def impl_BirthdaysOf.i : FI := ⟨Tryz.f13, body Tryz.f13, (.seq .nil (.seq (.seq .nil (.cond (.seq .nil .nil) .nil)) (.seq .nil (.seq (.seq .nil (.blk (.loop [0, 4, 5] [] (.seq (.seq .nil (.cond .nil .nil)) (.seq (.blk (.seq .nil (.seq (.seq .nil (.blk (.loop [0, 4, 5, 6, 19, 20, 21] [] (.seq .nil (.seq (.cond .nil .nil) (.seq (.blk (.seq .nil (.seq .nil (.cond .nil .nil)))) .nil)))))) (.seq .nil (.cond .nil .nil))))) .nil))))) (.seq .nil .nil))))), [], [], [.res (.tmp 2) (.own 35 (.slice (.int .i64))), .res (.tmp 3) (.v .bool)]⟩
noncomputable def impl_BirthdaysOf.sp : CSpec := mkSpec impl_BirthdaysOf.g T impl_BirthdaysOf.i
theorem impl_BirthdaysOf.ok : SpecOk Tryz.prog I 13 impl_BirthdaysOf.sp := mkSpec_ok hmix hI impl_BirthdaysOf.gok tok impl_BirthdaysOf.i Tryz.func13 (by kernel_rfl) (by kernel_rfl) (by kernel_rfl) (by kernel_rfl)
noncomputable def impl_BirthdaysOf.f (x0 : List (Int × Int)) : Option ((List (List Int)) × Bool) := run impl_BirthdaysOf.g T impl_BirthdaysOf.i [.v (.slice (.pair (.int .i64) (.int .i64))) x0]
noncomputable def impl_BirthdaysOf.l0 (x0 : List (Int × Int)) (x4 : List (List Int)) (x5 : Int) : Option ((List (List Int)) × Bool) := runAt impl_BirthdaysOf.g T impl_BirthdaysOf.i [true, true, true, false, true, false] [(0, .val (.slice (.pair (.int .i64) (.int .i64))) x0), (4, .own 35 (.slice (.int .i64)) x4), (5, .val (.int .i64) x5)] []
noncomputable def impl_BirthdaysOf.l1 (x0 : List (Int × Int)) (x4 : List (List Int)) (x5 : Int) (x6 : List Int) (x19 : List (Int × Int)) (x20 : Int) (x21 : Int) : Option ((List (List Int)) × Bool) := runAt impl_BirthdaysOf.g T impl_BirthdaysOf.i [true, true, true, false, true, false, false, true, false, false, true, false, true, false] [(0, .val (.slice (.pair (.int .i64) (.int .i64))) x0), (4, .own 35 (.slice (.int .i64)) x4), (5, .val (.int .i64) x5), (6, .own 3 (.int .i64) x6), (19, .val (.slice (.pair (.int .i64) (.int .i64))) x19), (20, .val (.int .i64) x20), (21, .val (.int .i64) x21)] []
theorem impl_BirthdaysOf.f.eq (x0 : List (Int × Int)) : impl_BirthdaysOf.f x0 =
  (impl_AreBirthDates.f x0).bind fun y1 =>
  if (!y1) = true then
    some ([], false)
  else
    impl_BirthdaysOf.l0 x0 [] 1 := by kernel_rfl
theorem impl_BirthdaysOf.l0.eq (x0 : List (Int × Int)) (x4 : List (List Int)) (x5 : Int) : impl_BirthdaysOf.l0 x0 x4 x5 =
  if (decide (x5 ≤ 365)) = true then
    impl_BirthdaysOf.l1 x0 x4 x5 [x5] x0 (x0.length : Int) 0
  else
    some (x4, true) := (runAt_loop _ _ _ _ _ _).trans (by kernel_rfl)
theorem impl_BirthdaysOf.l1.eq (x0 : List (Int × Int)) (x4 : List (List Int)) (x5 : Int) (x6 : List Int) (x19 : List (Int × Int)) (x20 : Int) (x21 : Int) : impl_BirthdaysOf.l1 x0 x4 x5 x6 x19 x20 x21 =
  if (decide (x21 < x20)) = true then
    (rdI x19 x21).bind fun y2 =>
    if (y2.2 == x5) = true then
      (catI (appMax 8) x6 [x21]).bind fun y4 =>
      impl_BirthdaysOf.l1 x0 x4 x5 y4 x19 x20 (IntKind.i64.wrap (x21 + 1))
    else
      impl_BirthdaysOf.l1 x0 x4 x5 x6 x19 x20 (IntKind.i64.wrap (x21 + 1))
  else
    if (decide ((x6.length : Int) > 1)) = true then
      (catI (appMax 24) x4 [x6]).bind fun y9 =>
      impl_BirthdaysOf.l0 x0 y9 (IntKind.i64.wrap (x5 + 1))
    else
      impl_BirthdaysOf.l0 x0 x4 (IntKind.i64.wrap (x5 + 1)) := (runAt_loop _ _ _ _ _ _).trans (by kernel_rfl)
noncomputable def spec_BirthdaysOf.g : Gam := [(54, spec_biGood.sp)]
theorem spec_BirthdaysOf.gok : GOkI Tryz.prog I spec_BirthdaysOf.g := (GOkI.nil _ _).cons spec_biGood.ok
noncomputable def spec_BirthdaysOf.i : FI := ⟨Tryz.f14, body Tryz.f14, (.seq .nil (.seq (.seq .nil (.cond (.seq .nil .nil) .nil)) (.seq .nil (.seq (.seq .nil (.blk (.loop [0, 4, 5] [] (.seq (.seq .nil (.cond .nil .nil)) (.seq (.blk (.seq .nil (.seq (.seq .nil (.blk (.loop [0, 4, 5, 6, 18, 19, 20] [] (.seq .nil (.seq (.cond .nil .nil) (.seq (.blk (.seq .nil (.seq .nil (.cond .nil .nil)))) .nil)))))) (.seq .nil (.cond .nil .nil))))) .nil))))) (.seq .nil .nil))))), [], [], [.res (.tmp 2) (.own 35 (.slice (.int .i64))), .res (.tmp 3) (.v .bool)]⟩
noncomputable def spec_BirthdaysOf.sp : CSpec := mkSpec spec_BirthdaysOf.g T spec_BirthdaysOf.i
theorem spec_BirthdaysOf.ok : SpecOk Tryz.prog I 14 spec_BirthdaysOf.sp := mkSpec_ok hmix hI spec_BirthdaysOf.gok tok spec_BirthdaysOf.i Tryz.func14 (by kernel_rfl) (by kernel_rfl) (by kernel_rfl) (by kernel_rfl)
noncomputable def spec_BirthdaysOf.f (x0 : List (Int × Int)) : Option ((List (List Int)) × Bool) := run spec_BirthdaysOf.g T spec_BirthdaysOf.i [.v (.slice (.pair (.int .i64) (.int .i64))) x0]
noncomputable def spec_BirthdaysOf.l0 (x0 : List (Int × Int)) (x4 : List (List Int)) (x5 : Int) : Option ((List (List Int)) × Bool) := runAt spec_BirthdaysOf.g T spec_BirthdaysOf.i [true, true, true, false, true, false] [(0, .val (.slice (.pair (.int .i64) (.int .i64))) x0), (4, .own 35 (.slice (.int .i64)) x4), (5, .val (.int .i64) x5)] []
noncomputable def spec_BirthdaysOf.l1 (x0 : List (Int × Int)) (x4 : List (List Int)) (x5 : Int) (x6 : List Int) (x18 : List (Int × Int)) (x19 : Int) (x20 : Int) : Option ((List (List Int)) × Bool) := runAt spec_BirthdaysOf.g T spec_BirthdaysOf.i [true, true, true, false, true, false, false, true, false, false, true, false, true, false] [(0, .val (.slice (.pair (.int .i64) (.int .i64))) x0), (4, .own 35 (.slice (.int .i64)) x4), (5, .val (.int .i64) x5), (6, .own 3 (.int .i64) x6), (18, .val (.slice (.pair (.int .i64) (.int .i64))) x18), (19, .val (.int .i64) x19), (20, .val (.int .i64) x20)] []
theorem spec_BirthdaysOf.f.eq (x0 : List (Int × Int)) : spec_BirthdaysOf.f x0 =
  (spec_biGood.f x0).bind fun y1 =>
  if (!y1) = true then
    some ([], false)
  else
    spec_BirthdaysOf.l0 x0 [] 1 := by kernel_rfl
theorem spec_BirthdaysOf.l0.eq (x0 : List (Int × Int)) (x4 : List (List Int)) (x5 : Int) : spec_BirthdaysOf.l0 x0 x4 x5 =
  if (decide (x5 ≤ 365)) = true then
    spec_BirthdaysOf.l1 x0 x4 x5 [x5] x0 (x0.length : Int) 0
  else
    some (x4, true) := (runAt_loop _ _ _ _ _ _).trans (by kernel_rfl)
theorem spec_BirthdaysOf.l1.eq (x0 : List (Int × Int)) (x4 : List (List Int)) (x5 : Int) (x6 : List Int) (x18 : List (Int × Int)) (x19 : Int) (x20 : Int) : spec_BirthdaysOf.l1 x0 x4 x5 x6 x18 x19 x20 =
  if (decide (x20 < x19)) = true then
    (rdI x18 x20).bind fun y2 =>
    if (y2.2 == x5) = true then
      (catI (appMax 8) x6 [x20]).bind fun y4 =>
      spec_BirthdaysOf.l1 x0 x4 x5 y4 x18 x19 (IntKind.i64.wrap (x20 + 1))
    else
      spec_BirthdaysOf.l1 x0 x4 x5 x6 x18 x19 (IntKind.i64.wrap (x20 + 1))
  else
    if (decide ((x6.length : Int) > 1)) = true then
      (catI (appMax 24) x4 [x6]).bind fun y9 =>
      spec_BirthdaysOf.l0 x0 y9 (IntKind.i64.wrap (x5 + 1))
    else
      spec_BirthdaysOf.l0 x0 x4 (IntKind.i64.wrap (x5 + 1)) := (runAt_loop _ _ _ _ _ _).trans (by kernel_rfl)
noncomputable def impl_Date_text.g : Gam := [(81, strconv_Itoa.sp)]
theorem impl_Date_text.gok : GOkI Tryz.prog I impl_Date_text.g := (GOkI.nil _ _).cons strconv_Itoa.ok
noncomputable def impl_Date_text.i : FI := ⟨Tryz.f62, body Tryz.f62, (.seq .nil (.seq .nil .nil)), [], [], [.res (.tmp 2) (.v .str)]⟩
noncomputable def impl_Date_text.sp : CSpec := mkSpec impl_Date_text.g T impl_Date_text.i
theorem impl_Date_text.ok : SpecOk Tryz.prog I 62 impl_Date_text.sp := mkSpec_ok hmix hI impl_Date_text.gok tok impl_Date_text.i Tryz.func62 (by kernel_rfl) (by kernel_rfl) (by kernel_rfl) (by kernel_rfl)
noncomputable def impl_Date_text.f (x0 : Int × Int) : Option (List UInt8) := run impl_Date_text.g T impl_Date_text.i [.v (.pair (.int .i64) (.int .i64)) x0]
theorem impl_Date_text.f.eq (x0 : Int × Int) : impl_Date_text.f x0 =
  (strconv_Itoa.f x0.1).bind fun y1 =>
  (catI strMax y1 [46]).bind fun y2 =>
  (strconv_Itoa.f x0.2).bind fun y3 =>
  (catI strMax y2 y3).bind fun y4 =>
  some y4 := by kernel_rfl
noncomputable def impl_BirthsText.g : Gam := [(19, impl_AreBirthDates.sp), (62, impl_Date_text.sp), (63, strings_Join.sp)]
theorem impl_BirthsText.gok : GOkI Tryz.prog I impl_BirthsText.g := (((GOkI.nil _ _).cons strings_Join.ok).cons impl_Date_text.ok).cons impl_AreBirthDates.ok
noncomputable def impl_BirthsText.i : FI := ⟨Tryz.f15, body Tryz.f15, (.seq .nil (.seq (.seq .nil (.cond (.seq .nil .nil) .nil)) (.seq .nil (.seq (.seq .nil (.blk (.loop [4, 11, 12, 13] [] (.seq .nil (.seq (.cond .nil .nil) (.seq (.blk (.seq .nil .nil)) .nil)))))) (.seq .nil .nil))))), [], [], [.res (.tmp 2) (.v .str), .res (.tmp 3) (.v .bool)]⟩
noncomputable def impl_BirthsText.sp : CSpec := mkSpec impl_BirthsText.g T impl_BirthsText.i
theorem impl_BirthsText.ok : SpecOk Tryz.prog I 15 impl_BirthsText.sp := mkSpec_ok hmix hI impl_BirthsText.gok tok impl_BirthsText.i Tryz.func15 (by kernel_rfl) (by kernel_rfl) (by kernel_rfl) (by kernel_rfl)
noncomputable def impl_BirthsText.f (x0 : List (Int × Int)) : Option ((List UInt8) × Bool) := run impl_BirthsText.g T impl_BirthsText.i [.v (.slice (.pair (.int .i64) (.int .i64))) x0]
noncomputable def impl_BirthsText.l0 (x4 : List (List UInt8)) (x11 : List (Int × Int)) (x12 : Int) (x13 : Int) : Option ((List UInt8) × Bool) := runAt impl_BirthsText.g T impl_BirthsText.i [true, true, true, false, true, false] [(4, .own 9 .str x4), (11, .val (.slice (.pair (.int .i64) (.int .i64))) x11), (12, .val (.int .i64) x12), (13, .val (.int .i64) x13)] []
theorem impl_BirthsText.f.eq (x0 : List (Int × Int)) : impl_BirthsText.f x0 =
  (impl_AreBirthDates.f x0).bind fun y1 =>
  if (!y1) = true then
    some ([], false)
  else
    impl_BirthsText.l0 [] x0 (x0.length : Int) 0 := by kernel_rfl
theorem impl_BirthsText.l0.eq (x4 : List (List UInt8)) (x11 : List (Int × Int)) (x12 : Int) (x13 : Int) : impl_BirthsText.l0 x4 x11 x12 x13 =
  if (decide (x13 < x12)) = true then
    (rdI x11 x13).bind fun y2 =>
    (impl_Date_text.f (y2.1, y2.2)).bind fun y3 =>
    (catI (appMax 16) x4 [y3]).bind fun y4 =>
    impl_BirthsText.l0 y4 x11 x12 (IntKind.i64.wrap (x13 + 1))
  else
    (strings_Join.f x4 [44]).bind fun y6 =>
    some (y6, true) := (runAt_loop _ _ _ _ _ _).trans (by kernel_rfl)
noncomputable def spec_l1Num.g : Gam := []
theorem spec_l1Num.gok : GOkI Tryz.prog I spec_l1Num.g := GOkI.nil _ _
noncomputable def spec_l1Num.i : FI := ⟨Tryz.f85, body Tryz.f85, (.seq .nil (.seq (.seq .nil (.cond (.seq .nil .nil) .nil)) (.seq .nil .nil))), [], [], [.res (.tmp 2) (.v .str)]⟩
noncomputable def spec_l1Num.sp : CSpec := limSpec spec_l1Num.g T spec_l1Num.i 85
theorem spec_l1Num.ok : SpecOk Tryz.prog I 85 spec_l1Num.sp := limSpec_ok hmix hI spec_l1Num.gok tok spec_l1Num.i Tryz.func85 (by kernel_rfl) (by kernel_rfl) (by kernel_rfl) (by kernel_rfl)
noncomputable def spec_l1Num.r (k : Nat) (x0 : Int) : Option (List UInt8) := recO spec_l1Num.g T spec_l1Num.i 85 k [.v (.int .i64) x0]
noncomputable def spec_l1Num.f (x0 : Int) : Option (List UInt8) := lim fun k => spec_l1Num.r k x0
theorem spec_l1Num.r.eq (k : Nat) (x0 : Int) : spec_l1Num.r (k + 1) x0 =
  if (decide (x0 < 10)) = true then
    some ([(IntKind.u8.wrap (IntKind.i64.wrap (48 + x0)))].map fun n => UInt8.ofNat n.toNat)
  else
    (spec_l1Num.r k (IntKind.i64.wrap (x0.tdiv 10))).bind fun y5 =>
    (catI strMax y5 ([(IntKind.u8.wrap (IntKind.i64.wrap (48 + (x0.tmod 10))))].map fun n => UInt8.ofNat n.toNat)).bind fun y9 =>
    some y9 := by kernel_rfl
noncomputable def spec_biText.g : Gam := [(85, spec_l1Num.sp)]
theorem spec_biText.gok : GOkI Tryz.prog I spec_biText.g := (GOkI.nil _ _).cons spec_l1Num.ok
noncomputable def spec_biText.i : FI := ⟨Tryz.f64, body Tryz.f64, (.seq .nil (.seq .nil (.seq (.seq .nil (.blk (.loop [3, 6, 7, 8] [] (.seq .nil (.seq (.cond .nil .nil) (.seq (.blk (.seq .nil (.seq (.seq .nil (.cond .nil .nil)) .nil))) .nil)))))) (.seq .nil .nil)))), [], [], [.res (.tmp 2) (.v .str)]⟩
noncomputable def spec_biText.sp : CSpec := mkSpec spec_biText.g T spec_biText.i
theorem spec_biText.ok : SpecOk Tryz.prog I 64 spec_biText.sp := mkSpec_ok hmix hI spec_biText.gok tok spec_biText.i Tryz.func64 (by kernel_rfl) (by kernel_rfl) (by kernel_rfl) (by kernel_rfl)
noncomputable def spec_biText.f (x0 : List (Int × Int)) : Option (List UInt8) := run spec_biText.g T spec_biText.i [.v (.slice (.pair (.int .i64) (.int .i64))) x0]
noncomputable def spec_biText.l0 (x3 : List UInt8) (x6 : List (Int × Int)) (x7 : Int) (x8 : Int) : Option (List UInt8) := runAt spec_biText.g T spec_biText.i [true, true, false, true, false] [(3, .val .str x3), (6, .val (.slice (.pair (.int .i64) (.int .i64))) x6), (7, .val (.int .i64) x7), (8, .val (.int .i64) x8)] []
theorem spec_biText.f.eq (x0 : List (Int × Int)) : spec_biText.f x0 =
  spec_biText.l0 [] x0 (x0.length : Int) 0 := by kernel_rfl
theorem spec_biText.l0.eq (x3 : List UInt8) (x6 : List (Int × Int)) (x7 : Int) (x8 : Int) : spec_biText.l0 x3 x6 x7 x8 =
  if (decide (x8 < x7)) = true then
    (rdI x6 x8).bind fun y2 =>
    if (decide (x8 > 0)) = true then
      (catI strMax x3 [44]).bind fun y4 =>
      (spec_l1Num.f y2.1).bind fun y5 =>
      (catI strMax y5 [46]).bind fun y6 =>
      (spec_l1Num.f y2.2).bind fun y7 =>
      (catI strMax y6 y7).bind fun y8 =>
      (catI strMax y4 y8).bind fun y9 =>
      spec_biText.l0 y9 x6 x7 (IntKind.i64.wrap (x8 + 1))
    else
      (spec_l1Num.f y2.1).bind fun y11 =>
      (catI strMax y11 [46]).bind fun y12 =>
      (spec_l1Num.f y2.2).bind fun y13 =>
      (catI strMax y12 y13).bind fun y14 =>
      (catI strMax x3 y14).bind fun y15 =>
      spec_biText.l0 y15 x6 x7 (IntKind.i64.wrap (x8 + 1))
  else
    some x3 := (runAt_loop _ _ _ _ _ _).trans (by kernel_rfl)
noncomputable def spec_BirthsText.g : Gam := [(54, spec_biGood.sp), (64, spec_biText.sp)]
theorem spec_BirthsText.gok : GOkI Tryz.prog I spec_BirthsText.g := ((GOkI.nil _ _).cons spec_biText.ok).cons spec_biGood.ok
noncomputable def spec_BirthsText.i : FI := ⟨Tryz.f16, body Tryz.f16, (.seq .nil (.seq (.seq .nil (.cond (.seq .nil .nil) .nil)) (.seq .nil .nil))), [], [], [.res (.tmp 2) (.v .str), .res (.tmp 3) (.v .bool)]⟩
noncomputable def spec_BirthsText.sp : CSpec := mkSpec spec_BirthsText.g T spec_BirthsText.i
theorem spec_BirthsText.ok : SpecOk Tryz.prog I 16 spec_BirthsText.sp := mkSpec_ok hmix hI spec_BirthsText.gok tok spec_BirthsText.i Tryz.func16 (by kernel_rfl) (by kernel_rfl) (by kernel_rfl) (by kernel_rfl)
noncomputable def spec_BirthsText.f (x0 : List (Int × Int)) : Option ((List UInt8) × Bool) := run spec_BirthsText.g T spec_BirthsText.i [.v (.slice (.pair (.int .i64) (.int .i64))) x0]
theorem spec_BirthsText.f.eq (x0 : List (Int × Int)) : spec_BirthsText.f x0 =
  (spec_biGood.f x0).bind fun y1 =>
  if (!y1) = true then
    some ([], false)
  else
    (spec_biText.f x0).bind fun y2 =>
    some (y2, true) := by kernel_rfl
noncomputable def laws_gSame.g : Gam := []
theorem laws_gSame.gok : GOkI Tryz.prog I laws_gSame.g := GOkI.nil _ _
noncomputable def laws_gSame.i : FI := ⟨Tryz.f17, body Tryz.f17, (.seq .nil (.seq (.seq .nil (.cond (.seq .nil .nil) .nil)) (.seq (.seq .nil (.blk (.loop [0, 1, 12, 13] [] (.seq .nil (.seq (.cond .nil .nil) (.seq (.blk (.seq .nil (.seq .nil (.cond (.seq .nil .nil) .nil)))) .nil)))))) (.seq .nil .nil)))), [], [], [.res (.tmp 4) (.v .bool)]⟩
noncomputable def laws_gSame.sp : CSpec := mkSpec laws_gSame.g T laws_gSame.i
theorem laws_gSame.ok : SpecOk Tryz.prog I 17 laws_gSame.sp := mkSpec_ok hmix hI laws_gSame.gok tok laws_gSame.i Tryz.func17 (by kernel_rfl) (by kernel_rfl) (by kernel_rfl) (by kernel_rfl)
noncomputable def laws_gSame.f (x0 : List Int) (x1 : List Int) : Option (Bool) := run laws_gSame.g T laws_gSame.i [.v (.slice (.int .i64)) x0, .v (.slice (.int .i64)) x1]
noncomputable def laws_gSame.l0 (x0 : List Int) (x1 : List Int) (x12 : Int) (x13 : Int) : Option (Bool) := runAt laws_gSame.g T laws_gSame.i [true, true, false, true, false] [(0, .val (.slice (.int .i64)) x0), (1, .val (.slice (.int .i64)) x1), (12, .val (.int .i64) x12), (13, .val (.int .i64) x13)] []
theorem laws_gSame.f.eq (x0 : List Int) (x1 : List Int) : laws_gSame.f x0 x1 =
  if ((x0.length : Int) != (x1.length : Int)) = true then
    some false
  else
    laws_gSame.l0 x0 x1 (x0.length : Int) 0 := by kernel_rfl
theorem laws_gSame.l0.eq (x0 : List Int) (x1 : List Int) (x12 : Int) (x13 : Int) : laws_gSame.l0 x0 x1 x12 x13 =
  if (decide (x13 < x12)) = true then
    (rdI x0 x13).bind fun y2 =>
    (rdI x1 x13).bind fun y3 =>
    if (y2 != y3) = true then
      some false
    else
      laws_gSame.l0 x0 x1 x12 (IntKind.i64.wrap (x13 + 1))
  else
    some true := (runAt_loop _ _ _ _ _ _).trans (by kernel_rfl)
noncomputable def laws_gRows.g : Gam := [(17, laws_gSame.sp)]
theorem laws_gRows.gok : GOkI Tryz.prog I laws_gRows.g := (GOkI.nil _ _).cons laws_gSame.ok
noncomputable def laws_gRows.i : FI := ⟨Tryz.f18, body Tryz.f18, (.seq .nil (.seq (.seq .nil (.cond (.seq .nil .nil) .nil)) (.seq (.seq .nil (.blk (.loop [0, 1, 12, 13] [] (.seq .nil (.seq (.cond .nil .nil) (.seq (.blk (.seq .nil (.seq .nil (.cond (.seq .nil .nil) .nil)))) .nil)))))) (.seq .nil .nil)))), [], [], [.res (.tmp 4) (.v .bool)]⟩
noncomputable def laws_gRows.sp : CSpec := mkSpec laws_gRows.g T laws_gRows.i
theorem laws_gRows.ok : SpecOk Tryz.prog I 18 laws_gRows.sp := mkSpec_ok hmix hI laws_gRows.gok tok laws_gRows.i Tryz.func18 (by kernel_rfl) (by kernel_rfl) (by kernel_rfl) (by kernel_rfl)
noncomputable def laws_gRows.f (x0 : List (List Int)) (x1 : List (List Int)) : Option (Bool) := run laws_gRows.g T laws_gRows.i [.v (.slice (.slice (.int .i64))) x0, .v (.slice (.slice (.int .i64))) x1]
noncomputable def laws_gRows.l0 (x0 : List (List Int)) (x1 : List (List Int)) (x12 : Int) (x13 : Int) : Option (Bool) := runAt laws_gRows.g T laws_gRows.i [true, true, false, true, false] [(0, .val (.slice (.slice (.int .i64))) x0), (1, .val (.slice (.slice (.int .i64))) x1), (12, .val (.int .i64) x12), (13, .val (.int .i64) x13)] []
theorem laws_gRows.f.eq (x0 : List (List Int)) (x1 : List (List Int)) : laws_gRows.f x0 x1 =
  if ((x0.length : Int) != (x1.length : Int)) = true then
    some false
  else
    laws_gRows.l0 x0 x1 (x0.length : Int) 0 := by kernel_rfl
theorem laws_gRows.l0.eq (x0 : List (List Int)) (x1 : List (List Int)) (x12 : Int) (x13 : Int) : laws_gRows.l0 x0 x1 x12 x13 =
  if (decide (x13 < x12)) = true then
    (rdI x0 x13).bind fun y2 =>
    (rdI x1 x13).bind fun y3 =>
    (laws_gSame.f y2 y3).bind fun y4 =>
    if (!y4) = true then
      some false
    else
      laws_gRows.l0 x0 x1 x12 (IntKind.i64.wrap (x13 + 1))
  else
    some true := (runAt_loop _ _ _ _ _ _).trans (by kernel_rfl)
noncomputable def spec_AreBirthDates.g : Gam := [(54, spec_biGood.sp)]
theorem spec_AreBirthDates.gok : GOkI Tryz.prog I spec_AreBirthDates.g := (GOkI.nil _ _).cons spec_biGood.ok
noncomputable def spec_AreBirthDates.i : FI := ⟨Tryz.f20, body Tryz.f20, (.seq .nil (.seq .nil .nil)), [], [], [.res (.tmp 2) (.v .bool)]⟩
noncomputable def spec_AreBirthDates.sp : CSpec := mkSpec spec_AreBirthDates.g T spec_AreBirthDates.i
theorem spec_AreBirthDates.ok : SpecOk Tryz.prog I 20 spec_AreBirthDates.sp := mkSpec_ok hmix hI spec_AreBirthDates.gok tok spec_AreBirthDates.i Tryz.func20 (by kernel_rfl) (by kernel_rfl) (by kernel_rfl) (by kernel_rfl)
noncomputable def spec_AreBirthDates.f (x0 : List (Int × Int)) : Option (Bool) := run spec_AreBirthDates.g T spec_AreBirthDates.i [.v (.slice (.pair (.int .i64) (.int .i64))) x0]
theorem spec_AreBirthDates.f.eq (x0 : List (Int × Int)) : spec_AreBirthDates.f x0 =
  (spec_biGood.f x0).bind fun y1 =>
  some y1 := by kernel_rfl
noncomputable def impl_GreatestGap.g : Gam := [(43, impl_IsDate.sp), (60, impl_Date_index.sp)]
theorem impl_GreatestGap.gok : GOkI Tryz.prog I impl_GreatestGap.g := ((GOkI.nil _ _).cons impl_Date_index.ok).cons impl_IsDate.ok
noncomputable def impl_GreatestGap.i : FI := ⟨Tryz.f21, body Tryz.f21, (.seq .nil (.seq (.cut [2, 3, 22] [2, 3] .nil (.cond (.seq .nil .nil) .nil)) (.seq .nil (.seq .nil .nil)))), [], [], [.res (.tmp 4) (.v (.int .i64)), .res (.tmp 5) (.v (.int .i64)), .res (.tmp 6) (.v .bool)]⟩
noncomputable def impl_GreatestGap.sp : CSpec := mkSpec impl_GreatestGap.g T impl_GreatestGap.i
theorem impl_GreatestGap.ok : SpecOk Tryz.prog I 21 impl_GreatestGap.sp := mkSpec_ok hmix hI impl_GreatestGap.gok tok impl_GreatestGap.i Tryz.func21 (by kernel_rfl) (by kernel_rfl) (by kernel_rfl) (by kernel_rfl)
noncomputable def impl_GreatestGap.f (x0 : Int × Int) (x1 : Int × Int) : Option (Int × Int × Bool) := run impl_GreatestGap.g T impl_GreatestGap.i [.v (.pair (.int .i64) (.int .i64)) x0, .v (.pair (.int .i64) (.int .i64)) x1]
noncomputable def impl_GreatestGap.j0 (x22 : Bool) (xb2_0 : Int) (xb2_1 : Int) (xb3_0 : Int) (xb3_1 : Int) : Option (Int × Int × Bool) := runJ impl_GreatestGap.g T impl_GreatestGap.i [true, false, true] [(2, .ptr 2 0), (3, .ptr 3 0), (22, .val .bool x22)] [(2, [⟨(.int .i64), xb2_0⟩, ⟨(.int .i64), xb2_1⟩]), (3, [⟨(.int .i64), xb3_0⟩, ⟨(.int .i64), xb3_1⟩])]
theorem impl_GreatestGap.f.eq (x0 : Int × Int) (x1 : Int × Int) : impl_GreatestGap.f x0 x1 =
  (impl_IsDate.f (x0.1, x0.2)).bind fun y1 =>
  if (!y1) = true then
    impl_GreatestGap.j0 true x0.1 x0.2 x1.1 x1.2
  else
    (impl_IsDate.f (x1.1, x1.2)).bind fun y8 =>
    if (if false = true then true else !y8) = true then
      impl_GreatestGap.j0 true x0.1 x0.2 x1.1 x1.2
    else
      (impl_Date_index.f (x0.1, x0.2)).bind fun y10 =>
      (impl_Date_index.f (x1.1, x1.2)).bind fun y11 =>
      impl_GreatestGap.j0 (if false = true then true else (decide (y10 > y11))) x0.1 x0.2 x1.1 x1.2 := by kernel_rfl
theorem impl_GreatestGap.j0.eq (x22 : Bool) (xb2_0 : Int) (xb2_1 : Int) (xb3_0 : Int) (xb3_1 : Int) : impl_GreatestGap.j0 x22 xb2_0 xb2_1 xb3_0 xb3_1 =
  if x22 = true then
    some (0, 0, false)
  else
    (impl_Date_index.f (xb3_0, xb3_1)).bind fun y1 =>
    (impl_Date_index.f (xb2_0, xb2_1)).bind fun y2 =>
    let y3 := IntKind.i64.wrap (y1 - y2)
    some ((IntKind.i64.wrap (y3.tdiv 365)), (IntKind.i64.wrap ((IntKind.i64.wrap ((IntKind.i64.wrap (y3 + 365)) - 1)).tdiv 365)), true) := (runJ_eq _ _ _ _ _ _).trans (by kernel_rfl)
noncomputable def impl_areBornOn.g : Gam := [(19, impl_AreBirthDates.sp), (43, impl_IsDate.sp), (50, impl_lastBirth.sp), (60, impl_Date_index.sp)]
theorem impl_areBornOn.gok : GOkI Tryz.prog I impl_areBornOn.g := ((((GOkI.nil _ _).cons impl_Date_index.ok).cons impl_lastBirth.ok).cons impl_IsDate.ok).cons impl_AreBirthDates.ok
noncomputable def impl_areBornOn.i : FI := ⟨Tryz.f72, body Tryz.f72, (.seq .nil (.seq .nil .nil)), [], [], [.res (.tmp 4) (.v .bool)]⟩
noncomputable def impl_areBornOn.sp : CSpec := mkSpec impl_areBornOn.g T impl_areBornOn.i
theorem impl_areBornOn.ok : SpecOk Tryz.prog I 72 impl_areBornOn.sp := mkSpec_ok hmix hI impl_areBornOn.gok tok impl_areBornOn.i Tryz.func72 (by kernel_rfl) (by kernel_rfl) (by kernel_rfl) (by kernel_rfl)
noncomputable def impl_areBornOn.f (x0 : List (Int × Int)) (x1 : Int × Int) : Option (Bool) := run impl_areBornOn.g T impl_areBornOn.i [.v (.slice (.pair (.int .i64) (.int .i64))) x0, .v (.pair (.int .i64) (.int .i64)) x1]
theorem impl_areBornOn.f.eq (x0 : List (Int × Int)) (x1 : Int × Int) : impl_areBornOn.f x0 x1 =
  (impl_AreBirthDates.f x0).bind fun y1 =>
  if y1 = true then
    (impl_IsDate.f (x1.1, x1.2)).bind fun y2 =>
    if (if true = true then y2 else false) = true then
      (impl_lastBirth.f x0).bind fun y4 =>
      (impl_Date_index.f (x1.1, x1.2)).bind fun y5 =>
      some (if true = true then (decide (y4 ≤ y5)) else false)
    else
      some false
  else
    some false := by kernel_rfl
noncomputable def impl_AgesOn.g : Gam := [(72, impl_areBornOn.sp), (60, impl_Date_index.sp), (52, impl_agesOn.sp)]
theorem impl_AgesOn.gok : GOkI Tryz.prog I impl_AgesOn.g := (((GOkI.nil _ _).cons impl_agesOn.ok).cons impl_Date_index.ok).cons impl_areBornOn.ok
noncomputable def impl_AgesOn.i : FI := ⟨Tryz.f67, body Tryz.f67, (.seq .nil (.seq (.seq .nil (.cond (.seq .nil .nil) .nil)) (.seq .nil .nil))), [], [], [.res (.tmp 4) (.own 3 (.int .i64)), .res (.tmp 5) (.v .bool)]⟩
noncomputable def impl_AgesOn.sp : CSpec := mkSpec impl_AgesOn.g T impl_AgesOn.i
theorem impl_AgesOn.ok : SpecOk Tryz.prog I 67 impl_AgesOn.sp := mkSpec_ok hmix hI impl_AgesOn.gok tok impl_AgesOn.i Tryz.func67 (by kernel_rfl) (by kernel_rfl) (by kernel_rfl) (by kernel_rfl)
noncomputable def impl_AgesOn.f (x0 : List (Int × Int)) (x1 : Int × Int) : Option ((List Int) × Bool) := run impl_AgesOn.g T impl_AgesOn.i [.v (.slice (.pair (.int .i64) (.int .i64))) x0, .v (.pair (.int .i64) (.int .i64)) x1]
theorem impl_AgesOn.f.eq (x0 : List (Int × Int)) (x1 : Int × Int) : impl_AgesOn.f x0 x1 =
  (impl_areBornOn.f x0 (x1.1, x1.2)).bind fun y1 =>
  if (!y1) = true then
    some ([], false)
  else
    (impl_Date_index.f (x1.1, x1.2)).bind fun y2 =>
    (impl_agesOn.f x0 y2).bind fun y3 =>
    some (y3, true) := by kernel_rfl
noncomputable def impl_SumOfAgesOn.g : Gam := [(67, impl_AgesOn.sp), (51, impl_total.sp)]
theorem impl_SumOfAgesOn.gok : GOkI Tryz.prog I impl_SumOfAgesOn.g := ((GOkI.nil _ _).cons impl_total.ok).cons impl_AgesOn.ok
noncomputable def impl_SumOfAgesOn.i : FI := ⟨Tryz.f22, body Tryz.f22, (.seq .nil (.seq .nil (.seq .nil .nil))), [], [], [.res (.tmp 4) (.v (.int .i64)), .res (.tmp 5) (.v .bool)]⟩
noncomputable def impl_SumOfAgesOn.sp : CSpec := mkSpec impl_SumOfAgesOn.g T impl_SumOfAgesOn.i
theorem impl_SumOfAgesOn.ok : SpecOk Tryz.prog I 22 impl_SumOfAgesOn.sp := mkSpec_ok hmix hI impl_SumOfAgesOn.gok tok impl_SumOfAgesOn.i Tryz.func22 (by kernel_rfl) (by kernel_rfl) (by kernel_rfl) (by kernel_rfl)
noncomputable def impl_SumOfAgesOn.f (x0 : List (Int × Int)) (x1 : Int × Int) : Option (Int × Bool) := run impl_SumOfAgesOn.g T impl_SumOfAgesOn.i [.v (.slice (.pair (.int .i64) (.int .i64))) x0, .v (.pair (.int .i64) (.int .i64)) x1]
theorem impl_SumOfAgesOn.f.eq (x0 : List (Int × Int)) (x1 : Int × Int) : impl_SumOfAgesOn.f x0 x1 =
  (impl_AgesOn.f x0 (x1.1, x1.2)).bind fun y1 =>
  (impl_total.f y1.1).bind fun y2 =>
  some (y2, y1.2) := by kernel_rfl
noncomputable def impl_AddDays.g : Gam := [(43, impl_IsDate.sp), (60, impl_Date_index.sp), (53, impl_dateAt.sp), (44, impl_between.sp)]
theorem impl_AddDays.gok : GOkI Tryz.prog I impl_AddDays.g := ((((GOkI.nil _ _).cons impl_between.ok).cons impl_dateAt.ok).cons impl_Date_index.ok).cons impl_IsDate.ok
noncomputable def impl_AddDays.i : FI := ⟨Tryz.f23, body Tryz.f23, (.seq .nil (.seq (.cut [1, 2, 4, 13] [2, 4] .nil (.cond (.seq .nil .nil) .nil)) (.seq .nil .nil))), [], [], [.res (.cell 4 25) (.v (.pair (.int .i64) (.int .i64))), .res (.tmp 5) (.v .bool)]⟩
noncomputable def impl_AddDays.sp : CSpec := mkSpec impl_AddDays.g T impl_AddDays.i
theorem impl_AddDays.ok : SpecOk Tryz.prog I 23 impl_AddDays.sp := mkSpec_ok hmix hI impl_AddDays.gok tok impl_AddDays.i Tryz.func23 (by kernel_rfl) (by kernel_rfl) (by kernel_rfl) (by kernel_rfl)
noncomputable def impl_AddDays.f (x0 : Int × Int) (x1 : Int) : Option ((Int × Int) × Bool) := run impl_AddDays.g T impl_AddDays.i [.v (.pair (.int .i64) (.int .i64)) x0, .v (.int .i64) x1]
noncomputable def impl_AddDays.j0 (x1 : Int) (x13 : Bool) (xb2_0 : Int) (xb2_1 : Int) (xb4_0 : Int) (xb4_1 : Int) : Option ((Int × Int) × Bool) := runJ impl_AddDays.g T impl_AddDays.i [true, false, true] [(1, .val (.int .i64) x1), (2, .ptr 2 0), (4, .ptr 4 0), (13, .val .bool x13)] [(2, [⟨(.int .i64), xb2_0⟩, ⟨(.int .i64), xb2_1⟩]), (4, [⟨(.int .i64), xb4_0⟩, ⟨(.int .i64), xb4_1⟩])]
theorem impl_AddDays.f.eq (x0 : Int × Int) (x1 : Int) : impl_AddDays.f x0 x1 =
  (impl_IsDate.f (x0.1, x0.2)).bind fun y1 =>
  if (!y1) = true then
    impl_AddDays.j0 x1 true x0.1 x0.2 0 0
  else
    (impl_between.f x1 (-2000000) 2000000).bind fun y4 =>
    impl_AddDays.j0 x1 (if false = true then true else !y4) x0.1 x0.2 0 0 := by kernel_rfl
theorem impl_AddDays.j0.eq (x1 : Int) (x13 : Bool) (xb2_0 : Int) (xb2_1 : Int) (xb4_0 : Int) (xb4_1 : Int) : impl_AddDays.j0 x1 x13 xb2_0 xb2_1 xb4_0 xb4_1 =
  if x13 = true then
    some ((0, 0), false)
  else
    (impl_Date_index.f (xb2_0, xb2_1)).bind fun y1 =>
    (impl_dateAt.f (IntKind.i64.wrap (y1 + x1))).bind fun y3 =>
    some ((y3.1.1, y3.1.2), y3.2) := (runJ_eq _ _ _ _ _ _).trans (by kernel_rfl)
noncomputable def impl_readDate.g : Gam := [(88, strings_Cut.sp), (89, impl_readNumber.sp), (43, impl_IsDate.sp)]
theorem impl_readDate.gok : GOkI Tryz.prog I impl_readDate.g := (((GOkI.nil _ _).cons impl_IsDate.ok).cons impl_readNumber.ok).cons strings_Cut.ok
noncomputable def impl_readDate.i : FI := ⟨Tryz.f69, body Tryz.f69, (.seq .nil (.seq .nil (.seq .nil (.seq .nil (.seq .nil (.seq .nil .nil)))))), [], [], [.res (.cell 2 25) (.v (.pair (.int .i64) (.int .i64))), .res (.tmp 3) (.v .bool)]⟩
noncomputable def impl_readDate.sp : CSpec := mkSpec impl_readDate.g T impl_readDate.i
theorem impl_readDate.ok : SpecOk Tryz.prog I 69 impl_readDate.sp := mkSpec_ok hmix hI impl_readDate.gok tok impl_readDate.i Tryz.func69 (by kernel_rfl) (by kernel_rfl) (by kernel_rfl) (by kernel_rfl)
noncomputable def impl_readDate.f (x0 : List UInt8) : Option ((Int × Int) × Bool) := run impl_readDate.g T impl_readDate.i [.v .str x0]
theorem impl_readDate.f.eq (x0 : List UInt8) : impl_readDate.f x0 =
  (strings_Cut.f x0 [46]).bind fun y1 =>
  (impl_readNumber.f y1.1).bind fun y2 =>
  (impl_readNumber.f y1.2.1).bind fun y3 =>
  if y2.2 = true then
    if (if true = true then y3.2 else false) = true then
      (impl_IsDate.f (y2.1, y3.1)).bind fun y5 =>
      some ((y2.1, y3.1), (if true = true then y5 else false))
    else
      some ((y2.1, y3.1), false)
  else
    some ((y2.1, y3.1), false) := by kernel_rfl
noncomputable def impl_ParseBirths.g : Gam := [(68, strings_Split.sp), (69, impl_readDate.sp)]
theorem impl_ParseBirths.gok : GOkI Tryz.prog I impl_ParseBirths.g := ((GOkI.nil _ _).cons impl_readDate.ok).cons strings_Split.ok
noncomputable def impl_ParseBirths.i : FI := ⟨Tryz.f24, body Tryz.f24, (.seq .nil (.seq .nil (.seq (.seq .nil (.blk (.loop [4, 11, 12, 13] [] (.seq .nil (.seq (.cond .nil .nil) (.seq (.blk (.seq .nil (.seq .nil (.seq (.seq .nil (.cond (.seq .nil .nil) .nil)) .nil)))) .nil)))))) (.seq .nil .nil)))), [], [], [.res (.tmp 2) (.own 25 (.pair (.int .i64) (.int .i64))), .res (.tmp 3) (.v .bool)]⟩
noncomputable def impl_ParseBirths.sp : CSpec := mkSpec impl_ParseBirths.g T impl_ParseBirths.i
theorem impl_ParseBirths.ok : SpecOk Tryz.prog I 24 impl_ParseBirths.sp := mkSpec_ok hmix hI impl_ParseBirths.gok tok impl_ParseBirths.i Tryz.func24 (by kernel_rfl) (by kernel_rfl) (by kernel_rfl) (by kernel_rfl)
noncomputable def impl_ParseBirths.f (x0 : List UInt8) : Option ((List (Int × Int)) × Bool) := run impl_ParseBirths.g T impl_ParseBirths.i [.v .str x0]
noncomputable def impl_ParseBirths.l0 (x4 : List (Int × Int)) (x11 : List (List UInt8)) (x12 : Int) (x13 : Int) : Option ((List (Int × Int)) × Bool) := runAt impl_ParseBirths.g T impl_ParseBirths.i [true, true, false, true, false] [(4, .own 25 (.pair (.int .i64) (.int .i64)) x4), (11, .val (.slice .str) x11), (12, .val (.int .i64) x12), (13, .val (.int .i64) x13)] []
theorem impl_ParseBirths.f.eq (x0 : List UInt8) : impl_ParseBirths.f x0 =
  (strings_Split.f x0 [44]).bind fun y1 =>
  impl_ParseBirths.l0 [] y1 (y1.length : Int) 0 := by kernel_rfl
theorem impl_ParseBirths.l0.eq (x4 : List (Int × Int)) (x11 : List (List UInt8)) (x12 : Int) (x13 : Int) : impl_ParseBirths.l0 x4 x11 x12 x13 =
  if (decide (x13 < x12)) = true then
    (rdI x11 x13).bind fun y2 =>
    (impl_readDate.f y2).bind fun y3 =>
    if (!y3.2) = true then
      some ([], false)
    else
      if (if false = true then true else (x4.length : Int) == 8) = true then
        some ([], false)
      else
        (catI (appMax 16) x4 [(y3.1.1, y3.1.2)]).bind fun y6 =>
        impl_ParseBirths.l0 y6 x11 x12 (IntKind.i64.wrap (x13 + 1))
  else
    some (x4, true) := (runAt_loop _ _ _ _ _ _).trans (by kernel_rfl)
noncomputable def laws_gDates.g : Gam := []
theorem laws_gDates.gok : GOkI Tryz.prog I laws_gDates.g := GOkI.nil _ _
noncomputable def laws_gDates.i : FI := ⟨Tryz.f25, body Tryz.f25, (.seq .nil (.seq (.seq .nil (.cond (.seq .nil .nil) .nil)) (.seq (.seq .nil (.blk (.loop [0, 1, 12, 13] [] (.seq .nil (.seq (.cond .nil .nil) (.seq (.blk (.seq .nil (.seq .nil (.cond (.seq .nil .nil) .nil)))) .nil)))))) (.seq .nil .nil)))), [], [], [.res (.tmp 4) (.v .bool)]⟩
noncomputable def laws_gDates.sp : CSpec := mkSpec laws_gDates.g T laws_gDates.i
theorem laws_gDates.ok : SpecOk Tryz.prog I 25 laws_gDates.sp := mkSpec_ok hmix hI laws_gDates.gok tok laws_gDates.i Tryz.func25 (by kernel_rfl) (by kernel_rfl) (by kernel_rfl) (by kernel_rfl)
noncomputable def laws_gDates.f (x0 : List (Int × Int)) (x1 : List (Int × Int)) : Option (Bool) := run laws_gDates.g T laws_gDates.i [.v (.slice (.pair (.int .i64) (.int .i64))) x0, .v (.slice (.pair (.int .i64) (.int .i64))) x1]
noncomputable def laws_gDates.l0 (x0 : List (Int × Int)) (x1 : List (Int × Int)) (x12 : Int) (x13 : Int) : Option (Bool) := runAt laws_gDates.g T laws_gDates.i [true, true, false, true, false] [(0, .val (.slice (.pair (.int .i64) (.int .i64))) x0), (1, .val (.slice (.pair (.int .i64) (.int .i64))) x1), (12, .val (.int .i64) x12), (13, .val (.int .i64) x13)] []
theorem laws_gDates.f.eq (x0 : List (Int × Int)) (x1 : List (Int × Int)) : laws_gDates.f x0 x1 =
  if ((x0.length : Int) != (x1.length : Int)) = true then
    some false
  else
    laws_gDates.l0 x0 x1 (x0.length : Int) 0 := by kernel_rfl
theorem laws_gDates.l0.eq (x0 : List (Int × Int)) (x1 : List (Int × Int)) (x12 : Int) (x13 : Int) : laws_gDates.l0 x0 x1 x12 x13 =
  if (decide (x13 < x12)) = true then
    (rdI x0 x13).bind fun y2 =>
    (rdI x1 x13).bind fun y3 =>
    if (!(y2.1 == y3.1 && y2.2 == y3.2)) = true then
      some false
    else
      laws_gDates.l0 x0 x1 x12 (IntKind.i64.wrap (x13 + 1))
  else
    some true := (runAt_loop _ _ _ _ _ _).trans (by kernel_rfl)
noncomputable def laws_gRises.g : Gam := []
theorem laws_gRises.gok : GOkI Tryz.prog I laws_gRises.g := GOkI.nil _ _
noncomputable def laws_gRises.i : FI := ⟨Tryz.f26, body Tryz.f26, (.seq .nil (.seq (.seq .nil (.blk (.loop [0, 3] [] (.seq (.seq .nil (.cond .nil .nil)) (.seq (.blk (.seq .nil (.cond (.seq .nil .nil) .nil))) .nil))))) (.seq .nil .nil))), [], [], [.res (.tmp 2) (.v .bool)]⟩
noncomputable def laws_gRises.sp : CSpec := mkSpec laws_gRises.g T laws_gRises.i
theorem laws_gRises.ok : SpecOk Tryz.prog I 26 laws_gRises.sp := mkSpec_ok hmix hI laws_gRises.gok tok laws_gRises.i Tryz.func26 (by kernel_rfl) (by kernel_rfl) (by kernel_rfl) (by kernel_rfl)
noncomputable def laws_gRises.f (x0 : List Int) : Option (Bool) := run laws_gRises.g T laws_gRises.i [.v (.slice (.int .i64)) x0]
noncomputable def laws_gRises.l0 (x0 : List Int) (x3 : Int) : Option (Bool) := runAt laws_gRises.g T laws_gRises.i [true, false, true, false] [(0, .val (.slice (.int .i64)) x0), (3, .val (.int .i64) x3)] []
theorem laws_gRises.f.eq (x0 : List Int) : laws_gRises.f x0 =
  laws_gRises.l0 x0 1 := by kernel_rfl
theorem laws_gRises.l0.eq (x0 : List Int) (x3 : Int) : laws_gRises.l0 x0 x3 =
  if (decide (x3 < (x0.length : Int))) = true then
    (rdI x0 (IntKind.i64.wrap (x3 - 1))).bind fun y4 =>
    (rdI x0 x3).bind fun y5 =>
    if (decide (y4 ≥ y5)) = true then
      some false
    else
      laws_gRises.l0 x0 (IntKind.i64.wrap (x3 + 1))
  else
    some true := (runAt_loop _ _ _ _ _ _).trans (by kernel_rfl)
noncomputable def spec_l1Cur_one.g : Gam := [(79, spec_l1Cur_pick.sp)]
theorem spec_l1Cur_one.gok : GOkI Tryz.prog I spec_l1Cur_one.g := (GOkI.nil _ _).cons spec_l1Cur_pick.ok
noncomputable def spec_l1Cur_one.i : FI := ⟨Tryz.f76, body Tryz.f76, (.seq .nil (.seq .nil .nil)), [], [1000000], [.res (.tmp 4) (.v .bool), .box 1000000 0 (.slice (.int .u8)), .box 1000000 1 (.int .i64), .box 1000000 2 (.int .u64)]⟩
noncomputable def spec_l1Cur_one.sp : CSpec := mkSpec spec_l1Cur_one.g T spec_l1Cur_one.i
theorem spec_l1Cur_one.ok : SpecOk Tryz.prog I 76 spec_l1Cur_one.sp := mkSpec_ok hmix hI spec_l1Cur_one.gok tok spec_l1Cur_one.i Tryz.func76 (by kernel_rfl) (by kernel_rfl) (by kernel_rfl) (by kernel_rfl)
noncomputable def spec_l1Cur_one.f (x0_0 : List Int) (x0_1 : Int) (x0_2 : Int) (x1 : Int) : Option (Bool × (List Int) × Int × Int) := run spec_l1Cur_one.g T spec_l1Cur_one.i [.bx [⟨(.slice (.int .u8)), x0_0⟩, ⟨(.int .i64), x0_1⟩, ⟨(.int .u64), x0_2⟩], .v (.int .i64) x1]
theorem spec_l1Cur_one.f.eq (x0_0 : List Int) (x0_1 : Int) (x0_2 : Int) (x1 : Int) : spec_l1Cur_one.f x0_0 x0_1 x0_2 x1 =
  (spec_l1Cur_pick.f x0_0 x0_1 x0_2 x1).bind fun y1 =>
  some ((y1.1 == 0), y1.2.1, y1.2.2.1, y1.2.2.2) := by kernel_rfl
noncomputable def spec_DrawGreatestGap.g : Gam := [(41, spec_l1Cur_sureDate.sp), (76, spec_l1Cur_one.sp), (74, spec_l1Cur_date.sp)]
theorem spec_DrawGreatestGap.gok : GOkI Tryz.prog I spec_DrawGreatestGap.g := (((GOkI.nil _ _).cons spec_l1Cur_date.ok).cons spec_l1Cur_one.ok).cons spec_l1Cur_sureDate.ok
noncomputable def spec_DrawGreatestGap.i : FI := ⟨Tryz.f70, body Tryz.f70, (.seq .nil (.seq .nil (.seq .nil (.seq (.seq .nil (.cond (.seq .nil .nil) .nil)) (.seq .nil .nil))))), [], [], [.res (.cell 2 25) (.v (.pair (.int .i64) (.int .i64))), .res (.cell 3 25) (.v (.pair (.int .i64) (.int .i64)))]⟩
noncomputable def spec_DrawGreatestGap.sp : CSpec := mkSpec spec_DrawGreatestGap.g T spec_DrawGreatestGap.i
theorem spec_DrawGreatestGap.ok : SpecOk Tryz.prog I 70 spec_DrawGreatestGap.sp := mkSpec_ok hmix hI spec_DrawGreatestGap.gok tok spec_DrawGreatestGap.i Tryz.func70 (by kernel_rfl) (by kernel_rfl) (by kernel_rfl) (by kernel_rfl)
noncomputable def spec_DrawGreatestGap.f (x0 : List Int) : Option ((Int × Int) × (Int × Int)) := run spec_DrawGreatestGap.g T spec_DrawGreatestGap.i [.v (.slice (.int .u8)) x0]
theorem spec_DrawGreatestGap.f.eq (x0 : List Int) : spec_DrawGreatestGap.f x0 =
  (spec_l1Cur_sureDate.f x0 0 0).bind fun y1 =>
  (spec_l1Cur_one.f y1.2.1 y1.2.2.1 y1.2.2.2 4).bind fun y2 =>
  if y2.1 = true then
    (spec_l1Cur_date.f y2.2.1 y2.2.2.1 y2.2.2.2).bind fun y3 =>
    some ((y1.1.1, y1.1.2), y3.1.1, y3.1.2)
  else
    (spec_l1Cur_sureDate.f y2.2.1 y2.2.2.1 y2.2.2.2).bind fun y4 =>
    some ((y1.1.1, y1.1.2), y4.1.1, y4.1.2) := by kernel_rfl
noncomputable def spec_DrawTwiceAsOld.g : Gam := [(70, spec_DrawGreatestGap.sp)]
theorem spec_DrawTwiceAsOld.gok : GOkI Tryz.prog I spec_DrawTwiceAsOld.g := (GOkI.nil _ _).cons spec_DrawGreatestGap.ok
noncomputable def spec_DrawTwiceAsOld.i : FI := ⟨Tryz.f27, body Tryz.f27, (.seq .nil (.seq .nil .nil)), [], [], [.res (.cell 2 25) (.v (.pair (.int .i64) (.int .i64))), .res (.cell 3 25) (.v (.pair (.int .i64) (.int .i64)))]⟩
noncomputable def spec_DrawTwiceAsOld.sp : CSpec := mkSpec spec_DrawTwiceAsOld.g T spec_DrawTwiceAsOld.i
theorem spec_DrawTwiceAsOld.ok : SpecOk Tryz.prog I 27 spec_DrawTwiceAsOld.sp := mkSpec_ok hmix hI spec_DrawTwiceAsOld.gok tok spec_DrawTwiceAsOld.i Tryz.func27 (by kernel_rfl) (by kernel_rfl) (by kernel_rfl) (by kernel_rfl)
noncomputable def spec_DrawTwiceAsOld.f (x0 : List Int) : Option ((Int × Int) × (Int × Int)) := run spec_DrawTwiceAsOld.g T spec_DrawTwiceAsOld.i [.v (.slice (.int .u8)) x0]
theorem spec_DrawTwiceAsOld.f.eq (x0 : List Int) : spec_DrawTwiceAsOld.f x0 =
  (spec_DrawGreatestGap.f x0).bind fun y1 =>
  some ((y1.1.1, y1.1.2), y1.2.1, y1.2.2) := by kernel_rfl
noncomputable def impl_TwiceAsOld.g : Gam := [(43, impl_IsDate.sp), (60, impl_Date_index.sp), (53, impl_dateAt.sp)]
theorem impl_TwiceAsOld.gok : GOkI Tryz.prog I impl_TwiceAsOld.g := (((GOkI.nil _ _).cons impl_dateAt.ok).cons impl_Date_index.ok).cons impl_IsDate.ok
noncomputable def impl_TwiceAsOld.i : FI := ⟨Tryz.f28, body Tryz.f28, (.seq .nil (.seq (.cut [2, 3, 4, 20] [2, 3, 4] .nil (.cond (.seq .nil .nil) .nil)) (.seq .nil .nil))), [], [], [.res (.cell 4 25) (.v (.pair (.int .i64) (.int .i64))), .res (.tmp 5) (.v .bool)]⟩
noncomputable def impl_TwiceAsOld.sp : CSpec := mkSpec impl_TwiceAsOld.g T impl_TwiceAsOld.i
theorem impl_TwiceAsOld.ok : SpecOk Tryz.prog I 28 impl_TwiceAsOld.sp := mkSpec_ok hmix hI impl_TwiceAsOld.gok tok impl_TwiceAsOld.i Tryz.func28 (by kernel_rfl) (by kernel_rfl) (by kernel_rfl) (by kernel_rfl)
noncomputable def impl_TwiceAsOld.f (x0 : Int × Int) (x1 : Int × Int) : Option ((Int × Int) × Bool) := run impl_TwiceAsOld.g T impl_TwiceAsOld.i [.v (.pair (.int .i64) (.int .i64)) x0, .v (.pair (.int .i64) (.int .i64)) x1]
noncomputable def impl_TwiceAsOld.j0 (x20 : Bool) (xb2_0 : Int) (xb2_1 : Int) (xb3_0 : Int) (xb3_1 : Int) (xb4_0 : Int) (xb4_1 : Int) : Option ((Int × Int) × Bool) := runJ impl_TwiceAsOld.g T impl_TwiceAsOld.i [true, false, true] [(2, .ptr 2 0), (3, .ptr 3 0), (4, .ptr 4 0), (20, .val .bool x20)] [(2, [⟨(.int .i64), xb2_0⟩, ⟨(.int .i64), xb2_1⟩]), (3, [⟨(.int .i64), xb3_0⟩, ⟨(.int .i64), xb3_1⟩]), (4, [⟨(.int .i64), xb4_0⟩, ⟨(.int .i64), xb4_1⟩])]
theorem impl_TwiceAsOld.f.eq (x0 : Int × Int) (x1 : Int × Int) : impl_TwiceAsOld.f x0 x1 =
  (impl_IsDate.f (x0.1, x0.2)).bind fun y1 =>
  if (!y1) = true then
    impl_TwiceAsOld.j0 true x0.1 x0.2 x1.1 x1.2 0 0
  else
    (impl_IsDate.f (x1.1, x1.2)).bind fun y6 =>
    if (if false = true then true else !y6) = true then
      impl_TwiceAsOld.j0 true x0.1 x0.2 x1.1 x1.2 0 0
    else
      (impl_Date_index.f (x1.1, x1.2)).bind fun y8 =>
      (impl_Date_index.f (x0.1, x0.2)).bind fun y9 =>
      impl_TwiceAsOld.j0 (if false = true then true else (decide (y8 ≤ y9))) x0.1 x0.2 x1.1 x1.2 0 0 := by kernel_rfl
theorem impl_TwiceAsOld.j0.eq (x20 : Bool) (xb2_0 : Int) (xb2_1 : Int) (xb3_0 : Int) (xb3_1 : Int) (xb4_0 : Int) (xb4_1 : Int) : impl_TwiceAsOld.j0 x20 xb2_0 xb2_1 xb3_0 xb3_1 xb4_0 xb4_1 =
  if x20 = true then
    some ((0, 0), false)
  else
    (impl_Date_index.f (xb3_0, xb3_1)).bind fun y1 =>
    (impl_Date_index.f (xb2_0, xb2_1)).bind fun y3 =>
    (impl_dateAt.f (IntKind.i64.wrap ((IntKind.i64.wrap (2 * y1)) - y3))).bind fun y5 =>
    some ((y5.1.1, y5.1.2), y5.2) := (runJ_eq _ _ _ _ _ _).trans (by kernel_rfl)
end Go.Proofs.YtobblofdkpljfaaGreatDoor.S
