/- What the functions of this seat come to, over plain values. No condition. -/
import Derived.Test.YtecdijlfnnminaaGreatDoorK1
namespace Go.Proofs.YtecdijlfnnminaaGreatDoor.S
open Go Go.Proofs.YtecdijlfnnminaaGreatDoor.Eng Go.Proofs
set_option maxRecDepth 1000000
set_option linter.unusedVariables false
noncomputable def spec_pzAll.g : Gam := [(68, spec_pzLook.sp)]
theorem spec_pzAll.gok : GOkI Tryz.prog I spec_pzAll.g := (GOkI.nil _ _).cons spec_pzLook.ok
noncomputable def spec_pzAll.i : FI := ⟨Tryz.f40, body Tryz.f40, (.seq .nil (.seq .nil (.seq .nil (.seq .nil .nil)))), [3000005], [], [.res (.tmp 4) (.own 33 (.slice (.int .i64)))]⟩
noncomputable def spec_pzAll.sp : CSpec := mkSpec spec_pzAll.g T spec_pzAll.i
theorem spec_pzAll.ok : SpecOk Tryz.prog I 40 spec_pzAll.sp := mkSpec_ok hmix hI spec_pzAll.gok tok spec_pzAll.i Tryz.func40 (by kernel_rfl) (by kernel_rfl) (by kernel_rfl) (by kernel_rfl)
noncomputable def spec_pzAll.f (x0 : Int) (x1 : List (Int × Int × Int)) : Option (List (List Int)) := run spec_pzAll.g T spec_pzAll.i [.v (.int .i64) x0, .v (.slice (.pair (.int .i64) (.pair (.int .i64) (.int .i64)))) x1]
theorem spec_pzAll.f.eq (x0 : Int) (x1 : List (Int × Int × Int)) : spec_pzAll.f x0 x1 =
 (spec_pzLook_v1.f x0 x1 []).bind fun y1 =>
 some y1 := by kernel_rfl
noncomputable def spec_Solutions.g : Gam := [(39, spec_pzGood.sp), (40, spec_pzAll.sp)]
theorem spec_Solutions.gok : GOkI Tryz.prog I spec_Solutions.g := ((GOkI.nil _ _).cons spec_pzAll.ok).cons spec_pzGood.ok
noncomputable def spec_Solutions.i : FI := ⟨Tryz.f7, body Tryz.f7, (.seq .nil (.seq (.seq .nil (.cond (.seq .nil .nil) .nil)) (.seq .nil .nil))), [], [], [.res (.tmp 2) (.own 33 (.slice (.int .i64))), .res (.tmp 3) (.v .bool)]⟩
noncomputable def spec_Solutions.sp : CSpec := mkSpec spec_Solutions.g T spec_Solutions.i
theorem spec_Solutions.ok : SpecOk Tryz.prog I 7 spec_Solutions.sp := mkSpec_ok hmix hI spec_Solutions.gok tok spec_Solutions.i Tryz.func7 (by kernel_rfl) (by kernel_rfl) (by kernel_rfl) (by kernel_rfl)
noncomputable def spec_Solutions.f (x0 : Int × (List (Int × Int × Int))) : Option ((List (List Int)) × Bool) := run spec_Solutions.g T spec_Solutions.i [.v (.pair (.int .i64) (.slice (.pair (.int .i64) (.pair (.int .i64) (.int .i64))))) x0]
theorem spec_Solutions.f.eq (x0 : Int × (List (Int × Int × Int))) : spec_Solutions.f x0 =
 (spec_pzGood.f (x0.1, x0.2)).bind fun y1 =>
 if (!y1) = true then
  some ([], false)
 else
  (spec_pzAll.f x0.1 x0.2).bind fun y2 =>
  some (y2, true) := by kernel_rfl
noncomputable def impl_CountSolutions.g : Gam := [(6, impl_Solutions.sp)]
theorem impl_CountSolutions.gok : GOkI Tryz.prog I impl_CountSolutions.g := (GOkI.nil _ _).cons impl_Solutions.ok
noncomputable def impl_CountSolutions.i : FI := ⟨Tryz.f8, body Tryz.f8, (.seq .nil (.seq .nil (.seq .nil .nil))), [], [], [.res (.tmp 2) (.v (.int .i64)), .res (.tmp 3) (.v .bool)]⟩
noncomputable def impl_CountSolutions.sp : CSpec := mkSpec impl_CountSolutions.g T impl_CountSolutions.i
theorem impl_CountSolutions.ok : SpecOk Tryz.prog I 8 impl_CountSolutions.sp := mkSpec_ok hmix hI impl_CountSolutions.gok tok impl_CountSolutions.i Tryz.func8 (by kernel_rfl) (by kernel_rfl) (by kernel_rfl) (by kernel_rfl)
noncomputable def impl_CountSolutions.f (x0 : Int × (List (Int × Int × Int))) : Option (Int × Bool) := run impl_CountSolutions.g T impl_CountSolutions.i [.v (.pair (.int .i64) (.slice (.pair (.int .i64) (.pair (.int .i64) (.int .i64))))) x0]
theorem impl_CountSolutions.f.eq (x0 : Int × (List (Int × Int × Int))) : impl_CountSolutions.f x0 =
 (impl_Solutions.f (x0.1, x0.2)).bind fun y1 =>
 some ((y1.1.length : Int), y1.2) := by kernel_rfl
noncomputable def spec_CountSolutions.g : Gam := [(39, spec_pzGood.sp), (40, spec_pzAll.sp)]
theorem spec_CountSolutions.gok : GOkI Tryz.prog I spec_CountSolutions.g := ((GOkI.nil _ _).cons spec_pzAll.ok).cons spec_pzGood.ok
noncomputable def spec_CountSolutions.i : FI := ⟨Tryz.f9, body Tryz.f9, (.seq .nil (.seq (.seq .nil (.cond (.seq .nil .nil) .nil)) (.seq .nil .nil))), [], [], [.res (.tmp 2) (.v (.int .i64)), .res (.tmp 3) (.v .bool)]⟩
noncomputable def spec_CountSolutions.sp : CSpec := mkSpec spec_CountSolutions.g T spec_CountSolutions.i
theorem spec_CountSolutions.ok : SpecOk Tryz.prog I 9 spec_CountSolutions.sp := mkSpec_ok hmix hI spec_CountSolutions.gok tok spec_CountSolutions.i Tryz.func9 (by kernel_rfl) (by kernel_rfl) (by kernel_rfl) (by kernel_rfl)
noncomputable def spec_CountSolutions.f (x0 : Int × (List (Int × Int × Int))) : Option (Int × Bool) := run spec_CountSolutions.g T spec_CountSolutions.i [.v (.pair (.int .i64) (.slice (.pair (.int .i64) (.pair (.int .i64) (.int .i64))))) x0]
theorem spec_CountSolutions.f.eq (x0 : Int × (List (Int × Int × Int))) : spec_CountSolutions.f x0 =
 (spec_pzGood.f (x0.1, x0.2)).bind fun y1 =>
 if (!y1) = true then
  some (0, false)
 else
  (spec_pzAll.f x0.1 x0.2).bind fun y2 =>
  some ((y2.length : Int), true) := by kernel_rfl
noncomputable def impl_FirstSolution.g : Gam := [(6, impl_Solutions.sp)]
theorem impl_FirstSolution.gok : GOkI Tryz.prog I impl_FirstSolution.g := (GOkI.nil _ _).cons impl_Solutions.ok
noncomputable def impl_FirstSolution.i : FI := ⟨Tryz.f10, body Tryz.f10, (.seq .nil (.seq .nil (.seq (.seq .nil (.cond (.seq .nil .nil) .nil)) (.seq .nil .nil)))), [], [], [.res (.tmp 2) (.v (.slice (.int .i64))), .res (.tmp 3) (.v .bool)]⟩
noncomputable def impl_FirstSolution.sp : CSpec := mkSpec impl_FirstSolution.g T impl_FirstSolution.i
theorem impl_FirstSolution.ok : SpecOk Tryz.prog I 10 impl_FirstSolution.sp := mkSpec_ok hmix hI impl_FirstSolution.gok tok impl_FirstSolution.i Tryz.func10 (by kernel_rfl) (by kernel_rfl) (by kernel_rfl) (by kernel_rfl)
noncomputable def impl_FirstSolution.f (x0 : Int × (List (Int × Int × Int))) : Option ((List Int) × Bool) := run impl_FirstSolution.g T impl_FirstSolution.i [.v (.pair (.int .i64) (.slice (.pair (.int .i64) (.pair (.int .i64) (.int .i64))))) x0]
theorem impl_FirstSolution.f.eq (x0 : Int × (List (Int × Int × Int))) : impl_FirstSolution.f x0 =
 (impl_Solutions.f (x0.1, x0.2)).bind fun y1 =>
 if (!y1.2) = true then
  some ([], false)
 else
  if (if false = true then true else (y1.1.length : Int) == 0) = true then
   some ([], false)
  else
   (rdI y1.1 0).bind fun y4 =>
   some (y4, true) := by kernel_rfl
noncomputable def spec_FirstSolution.g : Gam := [(39, spec_pzGood.sp), (40, spec_pzAll.sp)]
theorem spec_FirstSolution.gok : GOkI Tryz.prog I spec_FirstSolution.g := ((GOkI.nil _ _).cons spec_pzAll.ok).cons spec_pzGood.ok
noncomputable def spec_FirstSolution.i : FI := ⟨Tryz.f11, body Tryz.f11, (.seq .nil (.seq (.seq .nil (.cond (.seq .nil .nil) .nil)) (.seq .nil (.seq (.seq .nil (.cond (.seq .nil .nil) .nil)) (.seq .nil .nil))))), [], [], [.res (.tmp 2) (.v (.slice (.int .i64))), .res (.tmp 3) (.v .bool)]⟩
noncomputable def spec_FirstSolution.sp : CSpec := mkSpec spec_FirstSolution.g T spec_FirstSolution.i
theorem spec_FirstSolution.ok : SpecOk Tryz.prog I 11 spec_FirstSolution.sp := mkSpec_ok hmix hI spec_FirstSolution.gok tok spec_FirstSolution.i Tryz.func11 (by kernel_rfl) (by kernel_rfl) (by kernel_rfl) (by kernel_rfl)
noncomputable def spec_FirstSolution.f (x0 : Int × (List (Int × Int × Int))) : Option ((List Int) × Bool) := run spec_FirstSolution.g T spec_FirstSolution.i [.v (.pair (.int .i64) (.slice (.pair (.int .i64) (.pair (.int .i64) (.int .i64))))) x0]
theorem spec_FirstSolution.f.eq (x0 : Int × (List (Int × Int × Int))) : spec_FirstSolution.f x0 =
 (spec_pzGood.f (x0.1, x0.2)).bind fun y1 =>
 if (!y1) = true then
  some ([], false)
 else
  (spec_pzAll.f x0.1 x0.2).bind fun y2 =>
  if ((y2.length : Int) == 0) = true then
   some ([], false)
  else
   (rdI y2 0).bind fun y4 =>
   some (y4, true) := by kernel_rfl
noncomputable def impl_SureAges.g : Gam := [(6, impl_Solutions.sp), (41, slices_Clone.sp)]
theorem impl_SureAges.gok : GOkI Tryz.prog I impl_SureAges.g := ((GOkI.nil _ _).cons slices_Clone.ok).cons impl_Solutions.ok
noncomputable def impl_SureAges.i : FI := ⟨Tryz.f12, body Tryz.f12, (.seq .nil (.seq .nil (.seq (.cut [4, 22] [] .nil (.cond (.seq .nil .nil) .nil)) (.seq .nil (.seq (.seq .nil (.blk (.loop [4, 6, 27, 28, 29] [] (.seq .nil (.seq (.cond .nil .nil) (.seq (.blk (.seq .nil (.seq .nil (.blk (.loop [4, 6, 27, 28, 29, 33, 34, 35] [] (.seq .nil (.seq (.cond .nil .nil) (.seq (.blk (.seq .nil (.seq .nil (.cond .nil .nil)))) .nil)))))))) .nil)))))) (.seq .nil .nil)))))), [], [], [.res (.tmp 2) (.own 3 (.int .i64)), .res (.tmp 3) (.v .bool)]⟩
noncomputable def impl_SureAges.sp : CSpec := mkSpec impl_SureAges.g T impl_SureAges.i
theorem impl_SureAges.ok : SpecOk Tryz.prog I 12 impl_SureAges.sp := mkSpec_ok hmix hI impl_SureAges.gok tok impl_SureAges.i Tryz.func12 (by kernel_rfl) (by kernel_rfl) (by kernel_rfl) (by kernel_rfl)
noncomputable def impl_SureAges.f (x0 : Int × (List (Int × Int × Int))) : Option ((List Int) × Bool) := run impl_SureAges.g T impl_SureAges.i [.v (.pair (.int .i64) (.slice (.pair (.int .i64) (.pair (.int .i64) (.int .i64))))) x0]
noncomputable def impl_SureAges.j0 (x4 : List (List Int)) (x22 : Bool) : Option ((List Int) × Bool) := runJ impl_SureAges.g T impl_SureAges.i [true, true, false, true] [(4, .own 33 (.slice (.int .i64)) x4), (22, .val .bool x22)] []
noncomputable def impl_SureAges.l0 (x4 : List (List Int)) (x6 : List Int) (x28 : Int) (x29 : Int) : Option ((List Int) × Bool) := runAt impl_SureAges.g T impl_SureAges.i [true, true, true, true, false, true, false] [(4, .own 33 (.slice (.int .i64)) x4), (6, .own 3 (.int .i64) x6), (27, .alias 4), (28, .val (.int .i64) x28), (29, .val (.int .i64) x29)] []
noncomputable def impl_SureAges.l1 (x4 : List (List Int)) (x6 : List Int) (x28 : Int) (x29 : Int) (x33 : List Int) (x34 : Int) (x35 : Int) : Option ((List Int) × Bool) := runAt impl_SureAges.g T impl_SureAges.i [true, true, true, true, false, true, false, false, true, true, false, false, true, true, false] [(4, .own 33 (.slice (.int .i64)) x4), (6, .own 3 (.int .i64) x6), (27, .alias 4), (28, .val (.int .i64) x28), (29, .val (.int .i64) x29), (33, .val (.slice (.int .i64)) x33), (34, .val (.int .i64) x34), (35, .val (.int .i64) x35)] []
theorem impl_SureAges.f.eq (x0 : Int × (List (Int × Int × Int))) : impl_SureAges.f x0 =
 (impl_Solutions.f (x0.1, x0.2)).bind fun y1 =>
 if (!y1.2) = true then
  impl_SureAges.j0 y1.1 true
 else
  impl_SureAges.j0 y1.1 (if false = true then true else (y1.1.length : Int) == 0) := by kernel_rfl
theorem impl_SureAges.j0.eq (x4 : List (List Int)) (x22 : Bool) : impl_SureAges.j0 x4 x22 =
 if x22 = true then
  some ([], false)
 else
  (rdI x4 0).bind fun y1 =>
  (slices_Clone.f y1).bind fun y2 =>
  impl_SureAges.l0 x4 y2 (x4.length : Int) 0 := (runJ_eq _ _ _ _ _ _).trans (by kernel_rfl)
theorem impl_SureAges.l0.eq (x4 : List (List Int)) (x6 : List Int) (x28 : Int) (x29 : Int) : impl_SureAges.l0 x4 x6 x28 x29 =
 if (decide (x29 < x28)) = true then
  (rdI x4 x29).bind fun y2 =>
  impl_SureAges.l1 x4 x6 x28 x29 y2 (y2.length : Int) 0
 else
  some (x6, true) := (runAt_loop _ _ _ _ _ _).trans (by kernel_rfl)
theorem impl_SureAges.l1.eq (x4 : List (List Int)) (x6 : List Int) (x28 : Int) (x29 : Int) (x33 : List Int) (x34 : Int) (x35 : Int) : impl_SureAges.l1 x4 x6 x28 x29 x33 x34 x35 =
 if (decide (x35 < x34)) = true then
  (rdI x33 x35).bind fun y2 =>
  (rdI x6 x35).bind fun y3 =>
  if (y2 != y3) = true then
   (rdI x6 x35).bind fun _ =>
   impl_SureAges.l1 x4 (x6.set x35.toNat (-1)) x28 x29 x33 x34 (IntKind.i64.wrap (x35 + 1))
  else
   impl_SureAges.l1 x4 x6 x28 x29 x33 x34 (IntKind.i64.wrap (x35 + 1))
 else
  impl_SureAges.l0 x4 x6 x28 (IntKind.i64.wrap (x29 + 1)) := (runAt_loop _ _ _ _ _ _).trans (by kernel_rfl)
noncomputable def spec_SureAges.g : Gam := [(39, spec_pzGood.sp), (40, spec_pzAll.sp), (42, spec_l1Own.sp)]
theorem spec_SureAges.gok : GOkI Tryz.prog I spec_SureAges.g := (((GOkI.nil _ _).cons spec_l1Own.ok).cons spec_pzAll.ok).cons spec_pzGood.ok
noncomputable def spec_SureAges.i : FI := ⟨Tryz.f13, body Tryz.f13, (.seq .nil (.seq (.seq .nil (.cond (.seq .nil .nil) .nil)) (.seq .nil (.seq (.seq .nil (.cond (.seq .nil .nil) .nil)) (.seq .nil (.seq (.seq .nil (.blk (.loop [4, 5, 24, 25, 26] [] (.seq .nil (.seq (.cond .nil .nil) (.seq (.blk (.seq .nil (.seq .nil (.blk (.loop [4, 5, 7, 24, 25, 26, 31, 32] [] (.seq .nil (.seq (.cond .nil .nil) (.seq (.blk (.seq .nil (.seq .nil (.cond .nil .nil)))) .nil)))))))) .nil)))))) (.seq .nil .nil))))))), [], [], [.res (.tmp 2) (.own 3 (.int .i64)), .res (.tmp 3) (.v .bool)]⟩
noncomputable def spec_SureAges.sp : CSpec := mkSpec spec_SureAges.g T spec_SureAges.i
theorem spec_SureAges.ok : SpecOk Tryz.prog I 13 spec_SureAges.sp := mkSpec_ok hmix hI spec_SureAges.gok tok spec_SureAges.i Tryz.func13 (by kernel_rfl) (by kernel_rfl) (by kernel_rfl) (by kernel_rfl)
noncomputable def spec_SureAges.f (x0 : Int × (List (Int × Int × Int))) : Option ((List Int) × Bool) := run spec_SureAges.g T spec_SureAges.i [.v (.pair (.int .i64) (.slice (.pair (.int .i64) (.pair (.int .i64) (.int .i64))))) x0]
noncomputable def spec_SureAges.l0 (x4 : List (List Int)) (x5 : List Int) (x25 : Int) (x26 : Int) : Option ((List Int) × Bool) := runAt spec_SureAges.g T spec_SureAges.i [true, true, true, true, true, false, true, false] [(4, .own 33 (.slice (.int .i64)) x4), (5, .own 3 (.int .i64) x5), (24, .alias 4), (25, .val (.int .i64) x25), (26, .val (.int .i64) x26)] []
noncomputable def spec_SureAges.l1 (x4 : List (List Int)) (x5 : List Int) (x7 : List Int) (x25 : Int) (x26 : Int) (x31 : Int) (x32 : Int) : Option ((List Int) × Bool) := runAt spec_SureAges.g T spec_SureAges.i [true, true, true, true, true, false, true, false, false, true, true, false, false, true, true, false] [(4, .own 33 (.slice (.int .i64)) x4), (5, .own 3 (.int .i64) x5), (7, .val (.slice (.int .i64)) x7), (24, .alias 4), (25, .val (.int .i64) x25), (26, .val (.int .i64) x26), (31, .val (.int .i64) x31), (32, .val (.int .i64) x32)] []
theorem spec_SureAges.f.eq (x0 : Int × (List (Int × Int × Int))) : spec_SureAges.f x0 =
 (spec_pzGood.f (x0.1, x0.2)).bind fun y1 =>
 if (!y1) = true then
  some ([], false)
 else
  (spec_pzAll.f x0.1 x0.2).bind fun y2 =>
  if ((y2.length : Int) == 0) = true then
   some ([], false)
  else
   (rdI y2 0).bind fun y4 =>
   (spec_l1Own.f y4).bind fun y5 =>
   spec_SureAges.l0 y2 y5 (y2.length : Int) 0 := by kernel_rfl
theorem spec_SureAges.l0.eq (x4 : List (List Int)) (x5 : List Int) (x25 : Int) (x26 : Int) : spec_SureAges.l0 x4 x5 x25 x26 =
 if (decide (x26 < x25)) = true then
  (rdI x4 x26).bind fun y2 =>
  spec_SureAges.l1 x4 x5 y2 x25 x26 (x5.length : Int) 0
 else
  some (x5, true) := (runAt_loop _ _ _ _ _ _).trans (by kernel_rfl)
theorem spec_SureAges.l1.eq (x4 : List (List Int)) (x5 : List Int) (x7 : List Int) (x25 : Int) (x26 : Int) (x31 : Int) (x32 : Int) : spec_SureAges.l1 x4 x5 x7 x25 x26 x31 x32 =
 if (decide (x32 < x31)) = true then
  (rdI x7 x32).bind fun y2 =>
  (rdI x5 x32).bind fun y3 =>
  if (y2 != y3) = true then
   (rdI x5 x32).bind fun _ =>
   spec_SureAges.l1 x4 (x5.set x32.toNat (-1)) x7 x25 x26 x31 (IntKind.i64.wrap (x32 + 1))
  else
   spec_SureAges.l1 x4 x5 x7 x25 x26 x31 (IntKind.i64.wrap (x32 + 1))
 else
  spec_SureAges.l0 x4 x5 x25 (IntKind.i64.wrap (x26 + 1)) := (runAt_loop _ _ _ _ _ _).trans (by kernel_rfl)
noncomputable def impl_IsSolved.g : Gam := [(8, impl_CountSolutions.sp)]
theorem impl_IsSolved.gok : GOkI Tryz.prog I impl_IsSolved.g := (GOkI.nil _ _).cons impl_CountSolutions.ok
noncomputable def impl_IsSolved.i : FI := ⟨Tryz.f14, body Tryz.f14, (.seq .nil (.seq .nil (.seq .nil .nil))), [], [], [.res (.tmp 2) (.v .bool), .res (.tmp 3) (.v .bool)]⟩
noncomputable def impl_IsSolved.sp : CSpec := mkSpec impl_IsSolved.g T impl_IsSolved.i
theorem impl_IsSolved.ok : SpecOk Tryz.prog I 14 impl_IsSolved.sp := mkSpec_ok hmix hI impl_IsSolved.gok tok impl_IsSolved.i Tryz.func14 (by kernel_rfl) (by kernel_rfl) (by kernel_rfl) (by kernel_rfl)
noncomputable def impl_IsSolved.f (x0 : Int × (List (Int × Int × Int))) : Option (Bool × Bool) := run impl_IsSolved.g T impl_IsSolved.i [.v (.pair (.int .i64) (.slice (.pair (.int .i64) (.pair (.int .i64) (.int .i64))))) x0]
theorem impl_IsSolved.f.eq (x0 : Int × (List (Int × Int × Int))) : impl_IsSolved.f x0 =
 (impl_CountSolutions.f (x0.1, x0.2)).bind fun y1 =>
 if y1.2 = true then
  some ((if true = true then (y1.1 == 1) else false), y1.2)
 else
  some (false, y1.2) := by kernel_rfl
noncomputable def spec_pzSolved.g : Gam := [(40, spec_pzAll.sp)]
theorem spec_pzSolved.gok : GOkI Tryz.prog I spec_pzSolved.g := (GOkI.nil _ _).cons spec_pzAll.ok
noncomputable def spec_pzSolved.i : FI := ⟨Tryz.f43, body Tryz.f43, (.seq .nil (.seq .nil .nil)), [], [], [.res (.tmp 4) (.v .bool)]⟩
noncomputable def spec_pzSolved.sp : CSpec := mkSpec spec_pzSolved.g T spec_pzSolved.i
theorem spec_pzSolved.ok : SpecOk Tryz.prog I 43 spec_pzSolved.sp := mkSpec_ok hmix hI spec_pzSolved.gok tok spec_pzSolved.i Tryz.func43 (by kernel_rfl) (by kernel_rfl) (by kernel_rfl) (by kernel_rfl)
noncomputable def spec_pzSolved.f (x0 : Int) (x1 : List (Int × Int × Int)) : Option (Bool) := run spec_pzSolved.g T spec_pzSolved.i [.v (.int .i64) x0, .v (.slice (.pair (.int .i64) (.pair (.int .i64) (.int .i64)))) x1]
theorem spec_pzSolved.f.eq (x0 : Int) (x1 : List (Int × Int × Int)) : spec_pzSolved.f x0 x1 =
 (spec_pzAll.f x0 x1).bind fun y1 =>
 some ((y1.length : Int) == 1) := by kernel_rfl
noncomputable def spec_IsSolved.g : Gam := [(39, spec_pzGood.sp), (43, spec_pzSolved.sp)]
theorem spec_IsSolved.gok : GOkI Tryz.prog I spec_IsSolved.g := ((GOkI.nil _ _).cons spec_pzSolved.ok).cons spec_pzGood.ok
noncomputable def spec_IsSolved.i : FI := ⟨Tryz.f15, body Tryz.f15, (.seq .nil (.seq (.seq .nil (.cond (.seq .nil .nil) .nil)) (.seq .nil .nil))), [], [], [.res (.tmp 2) (.v .bool), .res (.tmp 3) (.v .bool)]⟩
noncomputable def spec_IsSolved.sp : CSpec := mkSpec spec_IsSolved.g T spec_IsSolved.i
theorem spec_IsSolved.ok : SpecOk Tryz.prog I 15 spec_IsSolved.sp := mkSpec_ok hmix hI spec_IsSolved.gok tok spec_IsSolved.i Tryz.func15 (by kernel_rfl) (by kernel_rfl) (by kernel_rfl) (by kernel_rfl)
noncomputable def spec_IsSolved.f (x0 : Int × (List (Int × Int × Int))) : Option (Bool × Bool) := run spec_IsSolved.g T spec_IsSolved.i [.v (.pair (.int .i64) (.slice (.pair (.int .i64) (.pair (.int .i64) (.int .i64))))) x0]
theorem spec_IsSolved.f.eq (x0 : Int × (List (Int × Int × Int))) : spec_IsSolved.f x0 =
 (spec_pzGood.f (x0.1, x0.2)).bind fun y1 =>
 if (!y1) = true then
  some (false, false)
 else
  (spec_pzSolved.f x0.1 x0.2).bind fun y2 =>
  some (y2, true) := by kernel_rfl
noncomputable def slices_Clone_72.g : Gam := []
theorem slices_Clone_72.gok : GOkI Tryz.prog I slices_Clone_72.g := GOkI.nil _ _
noncomputable def slices_Clone_72.i : FI := ⟨Tryz.f72, body Tryz.f72, (.seq .nil (.seq (.seq .nil (.cond (.seq .nil .nil) .nil)) (.seq .nil .nil))), [], [], [.res (.tmp 2) (.own 46 (.pair (.int .i64) (.pair (.int .i64) (.int .i64))))]⟩
noncomputable def slices_Clone_72.sp : CSpec := mkSpecN slices_Clone_72.g T slices_Clone_72.i
theorem slices_Clone_72.ok : SpecOk Tryz.prog I 72 slices_Clone_72.sp := mkSpecN_ok hI slices_Clone_72.gok tok slices_Clone_72.i Tryz.func72 (by kernel_rfl) (by kernel_rfl) (by kernel_rfl) (by kernel_rfl)
noncomputable def slices_Clone_72.f (x0 : List (Int × Int × Int)) : Option (List (Int × Int × Int)) := Go.Proofs.YtecdijlfnnminaaGreatDoor.Eng.runN slices_Clone_72.g T slices_Clone_72.i [.v (.slice (.pair (.int .i64) (.pair (.int .i64) (.int .i64)))) x0]
theorem slices_Clone_72.f.eq (x0 : List (Int × Int × Int)) : slices_Clone_72.f x0 =
 nilT x0 (
  some []) (
  (catI (appMax 24) [] x0).bind fun y1 =>
  some y1) := by kernel_rfl
section
open Go.RowKit
/-! ### impl.without: slices.Clone, then slices.Delete of one -/
noncomputable def impl_without.f (l : List (Int × Int × Int)) (a : Int) : Option (List (Int × Int × Int)) := if 0 ≤ a ∧ a < (l.length : Int) ∧ l.length ≤ 1048576 then some (l.eraseIdx a.toNat) else none
noncomputable def impl_without.sp : CSpec := spec2 (.slice (.pair (.int .i64) (.pair (.int .i64) (.int .i64)))) (.int .i64) impl_without.f (fun r => [.own 46 (.pair (.int .i64) (.pair (.int .i64) (.int .i64))) r])
/-- A row at block g, of capacity c, whose first cells are these. -/
def RowIs (w : World) (g c : Nat) (inner : List Value) : Prop := ∃ cur : Array Value, w.heap[g]? = some (.cells cur 46 (0, 0)) ∧ cur.size = c * 3 ∧ cur.toList.take inner.length = inner
/-- All but block g is as it was. -/
structure SameBut (g : Nat) (w w1 : World) : Prop where
 os : w1.os = w.os
 tape : w1.tape = w.tape
 output : w1.output = w.output
 size : w1.heap.size = w.heap.size
 far : ∀ k, k ≠ g → w1.heap[k]? = w.heap[k]?
theorem SameBut.trans {g : Nat} {w w1 w2 : World} (h : SameBut g w w1) (k : SameBut g w1 w2) : SameBut g w w2 := ⟨k.os.trans h.os, k.tape.trans h.tape, k.output.trans h.output, k.size.trans h.size, fun i hi => (k.far i hi).trans (h.far i hi)⟩
theorem SameBut.drew {g : Nat} {w w1 : World} (h : SameBut g w w1) : SameBut g w w1.drew := ⟨h.os, h.tape, h.output, h.size, h.far⟩
theorem SameBut.undrew {g : Nat} {w w1 : World} (h : SameBut g w.drew w1) : SameBut g w w1 := ⟨h.os, h.tape, h.output, h.size, h.far⟩
theorem SameBut.refl (g : Nat) (w : World) : SameBut g w w := ⟨rfl, rfl, rfl, rfl, fun _ _ => rfl⟩
theorem setCells_far {g : Nat} : ∀ (vs : List Value) (o : Nat) {w : World} (k : Nat), k ≠ g → (w.setCells g o vs).heap[k]? = w.heap[k]?
 | [], _, _, _, _ => rfl
 | v :: r, o, w, k, hk => by
  rw [World.setCells, setCells_far r (o + 1) k hk]
  exact Below.heap_setCell w ⟨g, o, none⟩ v k hk
theorem setCells_same (g : Nat) : ∀ (vs : List Value) (o : Nat) (w : World), SameBut g w (w.setCells g o vs)
 | [], _, w => SameBut.refl g w
 | v :: r, o, w => by
  have h := setCells_same g r (o + 1) (w.setCell ⟨g, o, none⟩ v)
  rw [World.setCells]
  exact ⟨h.os, h.tape, h.output, by rw [h.size]; simp [World.setCell], fun k hk => (h.far k hk).trans (Below.heap_setCell w ⟨g, o, none⟩ v k hk)⟩
theorem blk_set {w : World} {g : Nat} {t : TypeId} {cs : Array Value} (h : w.heap[g]? = some (.cells cs t (0, 0))) (i : Nat) (u : Value) : (w.setCell ⟨g, i, none⟩ u).heap[g]? = some (.cells (cs.setIfInBounds i u) t (0, 0)) := by
 simp [World.setCell, Array.getElem?_modify, h]
theorem setCells_row {g : Nat} {e : TypeId} : ∀ (vs : List Value) (o : Nat) (w : World) (cur : Array Value), w.heap[g]? = some (.cells cur e (0, 0)) → o + vs.length ≤ cur.size →
  ∃ cur', (w.setCells g o vs).heap[g]? = some (.cells cur' e (0, 0)) ∧ cur'.size = cur.size ∧ cur'.toList = cur.toList.take o ++ vs ++ cur.toList.drop (o + vs.length)
 | [], o, w, cur, h, _ => ⟨cur, h, rfl, by simp⟩
 | v :: r, o, w, cur, h, hl => by
  have h2 := blk_set h o v
  simp only [List.length_cons] at hl
  obtain ⟨cur', h3, h4, h5⟩ := setCells_row r (o + 1) (w.setCell ⟨g, o, none⟩ v) _ h2 (by simp; omega)
  refine ⟨cur', h3, by rw [h4]; simp, ?_⟩
  rw [h5, Array.toList_setIfInBounds]
  have ho : o < cur.toList.length := by rw [Array.length_toList]; omega
  rw [List.take_set, List.drop_set_of_lt (by omega)]
  simp only [List.length_cons]
  rw [show o + 1 + r.length = o + (r.length + 1) by omega]
  congr 1
  rw [List.take_succ_eq_append_getElem ho, List.set_append_right _ _ (by rw [List.length_take]; omega)]
  have ho' : o < cur.size := by omega
  simp [Nat.min_eq_left (Nat.le_of_lt ho')]
/-- What is written behind a row's end leaves the row as it is. -/
theorem RowIs.tail {w : World} {g c : Nat} {inner : List Value} (h : RowIs w g c inner) (o : Nat) (zs : List Value) (ho : inner.length ≤ o) (hz : o + zs.length ≤ c * 3) : RowIs (w.setCells g o zs) g c inner := by
 obtain ⟨cur, h1, h2, h3⟩ := h
 obtain ⟨cur', k1, k2, k3⟩ := setCells_row zs o w cur h1 (by omega)
 have hl : inner.length ≤ cur.toList.length := by have := congrArg List.length h3; rw [List.length_take] at this; omega
 refine ⟨cur', k1, by rw [k2, h2], ?_⟩
 rw [k3, List.append_assoc, List.take_append_of_le_length (by rw [List.length_take]; omega), List.take_take, Nat.min_eq_left ho]
 exact h3
theorem RowIs.head {w : World} {g c : Nat} {inner : List Value} (h : RowIs w g c inner) (m : Nat) (hm : m ≤ inner.length) : RowIs w g c (inner.take m) := by
 obtain ⟨cur, h1, h2, h3⟩ := h
 refine ⟨cur, h1, h2, ?_⟩
 rw [List.length_take, Nat.min_eq_left hm]
 have := congrArg (List.take m) h3
 rwa [List.take_take, Nat.min_eq_left hm] at this
theorem wo_info : (Tryz.prog.info? 46).map (fun i => i.size) = some 3 := by kernel_rfl
theorem wo_clear (g o m c : Nat) (w1 : World) (hm : m = 1) {inner : List Value} {cc : Nat} (h : RowIs w1 g cc inner) (hfit : o + 3 ≤ cc * 3) : (Builtin.clear_ #[24] 0 #[.slice (some ⟨g, o, none⟩) m c]).run Tryz.prog w1 = .ok (.tuple #[]) (w1.setCells g o [.int .i64 0, .int .i64 0, .int .i64 0]) := by
 subst hm
 obtain ⟨cur, hh, hs, _⟩ := h
 have hst := run_storeCells_cells (P := Tryz.prog) g o [.int .i64 0, .int .i64 0, .int .i64 0] 0 w1 (fun j hj => by rw [cell_of_row w1 g _ cur _ _ hh]; simp at hj ⊢; omega) (fun j _ => by simp [World.frozen?, hh]) (by intro v hv; simp at hv; subst hv; rfl)
 simp only [Nat.add_zero] at hst
 have hv : ∀ w, (zeroValue 46).run Tryz.prog w = .ok (.agg #[.int .i64 0, .int .i64 0, .int .i64 0]) w := fun w => by kernel_rfl
 have hzc : (Builtin.zeroCells (Value.agg #[.int .i64 0, .int .i64 0, .int .i64 0]).cells 1).toList = [.int .i64 0, .int .i64 0, .int .i64 0] := by kernel_rfl
 simp [Builtin.clear_, run_underlying Tryz.underlying24, hv, hzc, hst]
theorem add_at (g o j : Nat) : (⟨g, o, none⟩ : Addr).add j = ⟨g, o + j, none⟩ := by unfold Addr.add; split <;> simp_all
/-- 'append(s[:k], s[k+1:]...)' in place. -/
theorem del_run {W : World} (ty : TypeId) {g n c k : Nat} {inner : List Value} (h : RowIs W g c inner) (hin : inner.length = n * 3) (hone : ∀ u ∈ inner, u.oneCell' = true) (hk : k < n) (hnc : n ≤ c) {A : Option Addr}
  (hA : A = if c = k + 1 then some ⟨g, 0, none⟩ else some ⟨g, (k + 1) * 3, none⟩) (c2 : Nat) :
  (Builtin.append_ #[24, 24] ty #[.slice (some ⟨g, 0, none⟩) k c, .slice A (n - (k + 1)) c2]).run Tryz.prog W = .ok (.slice (some ⟨g, 0, none⟩) (n - 1) c) (W.setCells g (k * 3) (inner.drop ((k + 1) * 3))) ∧ RowIs (W.setCells g (k * 3) (inner.drop ((k + 1) * 3))) g c (inner.take (k * 3) ++ inner.drop ((k + 1) * 3)) := by
 obtain ⟨cur, hh, hcs, htake⟩ := h
 obtain ⟨i, hi, hsz⟩ := Option.map_eq_some_iff.1 wo_info
 have hnl : (inner.drop ((k + 1) * 3)).length = (n - (k + 1)) * 3 := by rw [List.length_drop, hin]; omega
 have hcur : ∀ q, q < n * 3 → cur.toList[q]? = inner[q]? := by
  intro q hq
  rw [← htake, List.getElem?_take, if_pos (by omega)]
 obtain ⟨a, rfl, hcell⟩ : ∃ a, A = some a ∧ ∀ j u, (inner.drop ((k + 1) * 3))[j]? = some u → W.cell? (a.add j) = some u := by
  by_cases hck : c = k + 1
  ·rw [if_pos hck] at hA
   refine ⟨_, hA, fun j u hu => ?_⟩
   have h0 : inner.drop ((k + 1) * 3) = [] := List.eq_nil_of_length_eq_zero (by rw [hnl]; omega)
   rw [h0] at hu
   simp at hu
  ·rw [if_neg hck] at hA
   refine ⟨_, hA, fun j u hu => ?_⟩
   have hj : j < (inner.drop ((k + 1) * 3)).length := (List.getElem?_eq_some_iff.1 hu).1
   rw [add_at, cell_of_row W g _ cur _ (0, 0) hh, ← Array.getElem?_toList]
   rw [List.getElem?_drop] at hu
   rw [← hu]
   exact hcur _ (by omega)
 have hfit : k * 3 + (inner.drop ((k + 1) * 3)).length ≤ cur.size := by omega
 have hrun := run_append_room_cells (P := Tryz.prog) (w := W) 24 ty 46 i Tryz.underlying24 hi g 0 k c a (n - (k + 1)) c2 (inner.drop ((k + 1) * 3)) (by rw [hnl, hsz]) hcell (fun u hu => hone u (List.mem_of_mem_drop hu)) (by omega)
  (fun j hj => by rw [hsz, cell_of_row W g _ cur _ (0, 0) hh]; simp; omega) (fun j _ => by simp [World.frozen?, hh])
 rw [hsz, show k + (n - (k + 1)) = n - 1 by omega, Nat.zero_add] at hrun
 refine ⟨hrun, ?_⟩
 obtain ⟨cur', h3, h4, h5⟩ := setCells_row (inner.drop ((k + 1) * 3)) (k * 3) W cur hh hfit
 refine ⟨cur', h3, by rw [h4, hcs], ?_⟩
 rw [h5]
 have h7 : cur.toList.take (k * 3) = inner.take (k * 3) := by rw [← htake, List.take_take, Nat.min_eq_left (by omega)]
 rw [h7]
 exact List.take_left' rfl
section
variable {ops : Array Oper} {o : Oper} {a : Act} {Q : Exit → Act → World → Prop} {Kc : Act → World → Prop}
theorem del_step {W : World} (hw : Region.wanted o (yielded ops a.tmps) = true) (s x : Operand) (ho : o.op = .call { callee := .builtin .append, args := #[s, x], argTypes := #[24, 24] })
  {g n c k m c2 : Nat} {inner : List Value} {A : Option Addr} (hs : a.eval s = .slice (some ⟨g, 0, none⟩) k c) (hx : a.eval x = .slice A m c2) (hA : A = if c = k + 1 then some ⟨g, 0, none⟩ else some ⟨g, (k + 1) * 3, none⟩) (hm : m = n - (k + 1))
  (HO : RowIs W g c inner) (hin : inner.length = n * 3) (hone : ∀ u ∈ inner, u.oneCell' = true) (hk : k < n) (hnc : n ≤ c)
  (h : ∀ w1, RowIs w1 g c (inner.take (k * 3) ++ inner.drop ((k + 1) * 3)) → SameBut g W w1 → Kc (a.put o.dst (.slice (some ⟨g, 0, none⟩) (n - 1) c)) w1) :
  if Region.wanted o (yielded ops a.tmps) = true then Oper.wp Tryz.prog o a W Kc Q else Kc (a.put o.dst undef) W := by
 subst hm
 obtain ⟨hr, h1⟩ := del_run o.type HO hin hone hk hnc hA c2
 rw [if_pos hw]
 unfold Oper.wp execOp
 simp only [ho, resolve, invoke, builtin, Sem.run_bind, Sem.run_pure, Result.andThen_ok, List.map_toArray, List.map_cons, List.map_nil, hs, hx, hr]
 exact h _ h1 (setCells_same g _ _ _)
end
set_option maxHeartbeats 4000000 in
theorem delete_one (W : World) (g c n k : Nat) (inner : List Value) (hk : k < n) (hnm : n ≤ 1048576) (hnc : n ≤ c) (HO : RowIs W g c inner) (hin : inner.length = n * 3) (hone : ∀ u ∈ inner, u.oneCell' = true) :
  Calls Tryz.prog 71 #[.slice (some ⟨g, 0, none⟩) n c, .int .i64 (k : Int), .int .i64 ((k + 1 : Nat) : Int)] W fun e w' => e = .returned (.slice (some ⟨g, 0, none⟩) (n - 1) c) ∧ RowIs w' g c (inner.take (k * 3) ++ inner.drop ((k + 1) * 3)) ∧ SameBut g W w' := by
 have hu := Tryz.underlying46
 have hne : ¬ ((k : Int) = ((k + 1 : Nat) : Int)) := by omega
 have hk0 : (0 : Int) ≤ (k : Int) := by omega
 have hk1 : (k : Int) ≤ ((k + 1 : Nat) : Int) := by omega
 have hk2 : ((k + 1 : Nat) : Int) ≤ (n : Int) := by omega
 have hk3 : (n : Int) ≤ (c : Int) := by omega
 have hkc : k ≤ c := by omega
 have hk6 : (0 : Int) ≤ (k : Int) + 1 := by omega
 have hk7 : (k : Int) + 1 ≤ (n : Int) := by omega
 have hk8 : (k : Int) + 1 ≤ (c : Int) := by omega
 have hkn : k + 1 ≤ n := by omega
 have hkb : ((k : Int) == (k : Int) + 1) = false := beq_eq_false_iff_ne.mpr (by omega)
 have HO' := Aside0.mk HO
 have HI := Aside0.mk (And.intro hin hone)
 clear HO hin hone
 go_enter Tryz.func71, Tryz.ntmps71
 go_wp2_with fail
 by_cases hck : c = k + 1
 ·have hcn : n = k + 1 := by omega
  subst hcn hck
  have hk4 : (k : Int) ≤ (k : Int) + 1 := by omega
  have hk5 : k ≤ k + 1 := by omega
  have HO1 := Aside0.mk (HO'.out.head (k * 3) (by rw [HI.out.1]; omega))
  have hclr : (Builtin.clear_ #[24] 0 #[.slice (some ⟨g, k * 3, none⟩) 1 1]).run Tryz.prog W.drew = .ok (.tuple #[]) (W.drew.setCells g (k * 3) [.int .i64 0, .int .i64 0, .int .i64 0]) :=
   wo_clear g (k * 3) 1 1 W.drew rfl HO'.out (by omega)
  go_region_held3 (fun _ => True) (exact trivial) (fail)
  all_goals
   go_wp2_with fail
   go_ret
   have hel : inner.take (k * 3) ++ inner.drop ((k + 1) * 3) = inner.take (k * 3) := by rw [List.drop_eq_nil_of_le (by rw [HI.out.1]; exact Nat.le_refl _), List.append_nil]
   rw [hel]
   exact ⟨rfl, HO1.out.tail (w := W.drew) _ _ (by rw [List.length_take, HI.out.1]; omega) (by simp only [List.length_cons, List.length_nil]; omega), (SameBut.refl g W).drew.trans (setCells_same g _ _ _)⟩
 ·go_region_held3 (fun _ => True) (exact trivial) (first | (refine del_step (by rfl) (.tmp 22) (.tmp 25) rfl (g := g) (n := n) (c := c) (k := k) (m := n - (k + 1)) rfl rfl ?hA rfl HO'.out HI.out.1 HI.out.2 hk hnc ?_; (case hA => (first | (rw [if_neg hck]; done) | (rw [if_neg hck]; simp [Addr.add]; done) | (rw [if_neg hck]; simp [Addr.add]; rfl))); intro w1 ho hb; have HO1 := Aside0.mk ho; have HB1 := Aside0.mk hb; have hclr := wo_clear g ((n - 1) * 3) (n - (n - 1)) (c - (n - 1)) w1 (by omega) HO1.out (by omega); clear ho hb))
  all_goals
   go_wp2_with fail
   go_ret
   exact ⟨rfl, HO1.out.tail (w := w1) _ _ (by rw [List.length_append, List.length_take, List.length_drop, HI.out.1]; omega) (by simp only [List.length_cons, List.length_nil]; omega), HB1.out.undrew.trans (setCells_same g _ _ _)⟩
theorem rc_erase {S : Nat → Prop} {w : World} {e : Ty} : ∀ {xs : List e.den} {cs : List Value}, RowCells S w e xs cs → ∀ k, RowCells S w e (xs.eraseIdx k) (cs.take (k * e.size) ++ cs.drop ((k + 1) * e.size))
 | [], _, h, k => by simp only [RowCells] at h; subst h; simp [RowCells]
 | x :: xs, _, ⟨c1, c2, h0, h1, h2⟩, 0 => by
  subst h0
  have hl := h1.length
  rw [Nat.zero_mul, Nat.zero_add, Nat.one_mul, ← hl, List.take_zero, List.nil_append, List.drop_left]
  exact h2
 | x :: xs, _, ⟨c1, c2, h0, h1, h2⟩, k + 1 => by
  subst h0
  have hl := h1.length
  have e1 : (k + 1) * e.size = c1.length + k * e.size := by rw [hl, Nat.add_mul]; omega
  have e2 : (k + 1 + 1) * e.size = c1.length + (k + 1) * e.size := by rw [hl, Nat.add_mul (k + 1)]; omega
  rw [List.eraseIdx_cons_succ, e2]
  conv => arg 5; arg 1; rw [e1]
  rw [List.take_length_add_append, List.drop_length_add_append, List.append_assoc]
  exact ⟨c1, _, rfl, h1, rc_erase h2 k⟩
set_option maxHeartbeats 4000000 in
theorem impl_without.ok : SpecOk Tryz.prog I 45 impl_without.sp := spec2_ok ⟨_, Tryz.func45, by kernel_rfl, by kernel_rfl⟩ (by
 intro S w (l : List (Int × Int × Int)) (a : Int) u v r hI hlt hu hv hr
 rw [ValR.int] at hv
 subst hv
 unfold impl_without.f at hr
 split at hr
 ·rename_i hp
  obtain rfl := Option.some.inj hr
  obtain ⟨k, rfl⟩ : ∃ k : Nat, a = (k : Int) := ⟨a.toNat, by omega⟩
  rw [Int.toNat_natCast]
  have hkn : k < l.length := by omega
  have hnm : l.length ≤ 1048576 := hp.2.2
  have hf : slices_Clone_72.f l = some l := by
   rw [slices_Clone_72.f.eq]
   have e : catI (appMax 24) [] l = some l := by
    unfold catI
    rw [if_pos (by rw [List.length_nil, Nat.zero_add]; exact Nat.le_trans hnm (by decide)), List.nil_append]
   rw [e]
   cases l with
   | nil => exact absurd hkn (Nat.not_lt_zero _)
   | cons x t => rfl
  have HC := Aside0.mk (slices_Clone_72.ok.calls S w [.v (.slice (.pair (.int .i64) (.pair (.int .i64) (.int .i64)))) l] [u] [] [] l hI hlt (by simp) (by simp) ⟨u, [], rfl, hu, rfl, rfl, rfl⟩ hf)
  have HS := Aside0.mk hlt
  have hw : wrap64 ((k : Int) + 1) = ((k + 1 : Nat) : Int) := by unfold wrap64; omega
  clear hp hr hf hu hI hlt
  go_enter Tryz.func45, Tryz.ntmps45
  go_wp2_with fail
  refine HC.out.mono ?_
  rintro e w1 ⟨rv, S', B', Bo, rfl, hkept, hres, _, _, _⟩
  obtain ⟨cs, ⟨hlen, hrow⟩, hrc, hob⟩ := hres.comps 0 _ rfl
  replace hrow : _ := hrow
  rcases hrow with ⟨hv0, h00⟩ | ⟨g, c, cur, hv0, _, hh, hle, hcm, hcs, htake⟩
  ·omega
  ·have hv1 : rv = .slice (some ⟨g, 0, none⟩) l.length c := hv0
   subst hv1
   have hfree := hres.free 0 g hob.symm
   have hgw : w.heap.size ≤ g := by
    rcases hfree.1 with h | h
    ·exact h
    ·cases h
   have hlen3 : cs.length = l.length * 3 := hlen
   have HR := Aside0.mk (show RowIs w1 g c cs from ⟨cur, hh, hcs, by rw [hlen3]; exact htake⟩)
   have HX := Aside0.mk (And.intro hrc (And.intro hlen3 (And.intro hle (And.intro hcm hgw))))
   have HK := Aside0.mk (show Below w.heap.size w w1 from ⟨hkept.os, hkept.tape, hkept.output, hkept.size, fun k hk => hkept.block k hk (by simp)⟩)
   have HD := Aside0.mk (delete_one w1 g c l.length k cs hkn hnm hle HR.out hlen3 hrc.one)
   clear hkept hres hrc hob hlen hh hle hcm hcs htake hfree hgw hlen3 HC hv0
   go_wp2_with fail
   refine HD.out.mono ?_
   rintro e w2 ⟨rfl, hr2, hs2⟩
   have HR2 := Aside0.mk hr2
   have HS2 := Aside0.mk hs2
   clear hr2 hs2
   go_wp2
   go_ret
   obtain ⟨hrc, hlen3, hle, hcm, hgw⟩ := HX.out
   obtain ⟨cur2, k1, k2, k3⟩ := HR2.out
   have hel : (l.eraseIdx k).length = l.length - 1 := by rw [List.length_eraseIdx_of_lt hkn]
   have hil : (cs.take (k * 3) ++ cs.drop ((k + 1) * 3)).length = (l.eraseIdx k).length * 3 := by rw [List.length_append, List.length_take, List.length_drop, hlen3, hel]; omega
   refine After.own1 (cs := cs.take (k * 3) ++ cs.drop ((k + 1) * 3)) ⟨HS2.out.os.trans HK.out.os, HS2.out.tape.trans HK.out.tape, HS2.out.output.trans HK.out.output, by rw [HS2.out.size]; exact HK.out.size, fun i hi => (HS2.out.far i (by omega)).trans (HK.out.block i hi)⟩ HS.out ?_ ?_
   ·refine ⟨hil, .inr ⟨g, c, cur2, by rw [hel]; rfl, hgw, k1, by rw [hel]; omega, hcm, k2, ?_⟩⟩
    show cur2.toList.take ((l.eraseIdx k).length * 3) = _
    rw [← hil]
    exact k3
   ·exact RowCells.flat (w := w1) (S := S') rfl (rc_erase hrc k)
 ·cases hr)
end
noncomputable def impl_NeedlessClues.g : Gam := [(6, impl_Solutions.sp), (45, impl_without.sp), (44, impl_solutions.sp)]
theorem impl_NeedlessClues.gok : GOkI Tryz.prog I impl_NeedlessClues.g := (((GOkI.nil _ _).cons impl_solutions.ok).cons impl_without.ok).cons impl_Solutions.ok
noncomputable def impl_NeedlessClues.i : FI := ⟨Tryz.f16, body Tryz.f16, (.seq .nil (.seq .nil (.seq (.seq .nil (.cond (.seq .nil .nil) .nil)) (.seq .nil (.seq (.seq .nil (.blk (.loop [1, 4, 6, 18, 19] [1] (.seq .nil (.seq (.cond .nil .nil) (.seq (.blk (.seq .nil (.seq .nil (.cond .nil .nil)))) .nil)))))) (.seq .nil .nil)))))), [], [], [.res (.tmp 2) (.own 3 (.int .i64)), .res (.tmp 3) (.v .bool)]⟩
noncomputable def impl_NeedlessClues.sp : CSpec := mkSpec impl_NeedlessClues.g T impl_NeedlessClues.i
theorem impl_NeedlessClues.ok : SpecOk Tryz.prog I 16 impl_NeedlessClues.sp := mkSpec_ok hmix hI impl_NeedlessClues.gok tok impl_NeedlessClues.i Tryz.func16 (by kernel_rfl) (by kernel_rfl) (by kernel_rfl) (by kernel_rfl)
noncomputable def impl_NeedlessClues.f (x0 : Int × (List (Int × Int × Int))) : Option ((List Int) × Bool) := run impl_NeedlessClues.g T impl_NeedlessClues.i [.v (.pair (.int .i64) (.slice (.pair (.int .i64) (.pair (.int .i64) (.int .i64))))) x0]
noncomputable def impl_NeedlessClues.l0 (x4 : List (List Int)) (x6 : List Int) (x18 : Int) (x19 : Int) (xb1_0 : Int) (xb1_1 : List (Int × Int × Int)) : Option ((List Int) × Bool) := runAt impl_NeedlessClues.g T impl_NeedlessClues.i [true, true, true, true, false, true, false] [(1, .ptr 1 0), (4, .own 33 (.slice (.int .i64)) x4), (6, .own 3 (.int .i64) x6), (18, .val (.int .i64) x18), (19, .val (.int .i64) x19)] [(1, [⟨(.int .i64), xb1_0⟩, ⟨(.slice (.pair (.int .i64) (.pair (.int .i64) (.int .i64)))), xb1_1⟩])]
theorem impl_NeedlessClues.f.eq (x0 : Int × (List (Int × Int × Int))) : impl_NeedlessClues.f x0 =
 (impl_Solutions.f (x0.1, x0.2)).bind fun y1 =>
 if (!y1.2) = true then
  some ([], false)
 else
  impl_NeedlessClues.l0 y1.1 [] (x0.2.length : Int) 0 x0.1 x0.2 := by kernel_rfl
theorem impl_NeedlessClues.l0.eq (x4 : List (List Int)) (x6 : List Int) (x18 : Int) (x19 : Int) (xb1_0 : Int) (xb1_1 : List (Int × Int × Int)) : impl_NeedlessClues.l0 x4 x6 x18 x19 xb1_0 xb1_1 =
 if (decide (x19 < x18)) = true then
  (impl_without.f xb1_1 x19).bind fun y2 =>
  (impl_solutions.f xb1_0 y2).bind fun y3 =>
  if ((y3.length : Int) == (x4.length : Int)) = true then
   (catI (appMax 8) x6 [x19]).bind fun y6 =>
   impl_NeedlessClues.l0 x4 y6 x18 (IntKind.i64.wrap (x19 + 1)) xb1_0 xb1_1
  else
   impl_NeedlessClues.l0 x4 x6 x18 (IntKind.i64.wrap (x19 + 1)) xb1_0 xb1_1
 else
  some (x6, true) := (runAt_loop _ _ _ _ _ _).trans (by kernel_rfl)
noncomputable def spec_pzWithout.g : Gam := []
theorem spec_pzWithout.gok : GOkI Tryz.prog I spec_pzWithout.g := GOkI.nil _ _
noncomputable def spec_pzWithout.i : FI := ⟨Tryz.f46, body Tryz.f46, (.seq .nil (.seq .nil .nil)), [], [], [.res (.tmp 4) (.own 46 (.pair (.int .i64) (.pair (.int .i64) (.int .i64))))]⟩
noncomputable def spec_pzWithout.sp : CSpec := mkSpec spec_pzWithout.g T spec_pzWithout.i
theorem spec_pzWithout.ok : SpecOk Tryz.prog I 46 spec_pzWithout.sp := mkSpec_ok hmix hI spec_pzWithout.gok tok spec_pzWithout.i Tryz.func46 (by kernel_rfl) (by kernel_rfl) (by kernel_rfl) (by kernel_rfl)
noncomputable def spec_pzWithout.f (x0 : List (Int × Int × Int)) (x1 : Int) : Option (List (Int × Int × Int)) := run spec_pzWithout.g T spec_pzWithout.i [.v (.slice (.pair (.int .i64) (.pair (.int .i64) (.int .i64)))) x0, .v (.int .i64) x1]
theorem spec_pzWithout.f.eq (x0 : List (Int × Int × Int)) (x1 : Int) : spec_pzWithout.f x0 x1 =
 (subI x0 0 x1).bind fun y1 =>
 (catI (appMax 24) [] y1).bind fun y2 =>
 (subI x0 (IntKind.i64.wrap (x1 + 1)) x0.length).bind fun y4 =>
 (catI (appMax 24) y2 y4).bind fun y5 =>
 some y5 := by kernel_rfl
noncomputable def spec_NeedlessClues.g : Gam := [(39, spec_pzGood.sp), (40, spec_pzAll.sp), (46, spec_pzWithout.sp)]
theorem spec_NeedlessClues.gok : GOkI Tryz.prog I spec_NeedlessClues.g := (((GOkI.nil _ _).cons spec_pzWithout.ok).cons spec_pzAll.ok).cons spec_pzGood.ok
noncomputable def spec_NeedlessClues.i : FI := ⟨Tryz.f17, body Tryz.f17, (.seq .nil (.seq (.seq .nil (.cond (.seq .nil .nil) .nil)) (.seq .nil (.seq .nil (.seq (.seq .nil (.blk (.loop [1, 4, 5, 18, 19] [1] (.seq .nil (.seq (.cond .nil .nil) (.seq (.blk (.seq .nil (.seq .nil (.cond .nil .nil)))) .nil)))))) (.seq .nil .nil)))))), [], [], [.res (.tmp 2) (.own 3 (.int .i64)), .res (.tmp 3) (.v .bool)]⟩
noncomputable def spec_NeedlessClues.sp : CSpec := mkSpec spec_NeedlessClues.g T spec_NeedlessClues.i
theorem spec_NeedlessClues.ok : SpecOk Tryz.prog I 17 spec_NeedlessClues.sp := mkSpec_ok hmix hI spec_NeedlessClues.gok tok spec_NeedlessClues.i Tryz.func17 (by kernel_rfl) (by kernel_rfl) (by kernel_rfl) (by kernel_rfl)
noncomputable def spec_NeedlessClues.f (x0 : Int × (List (Int × Int × Int))) : Option ((List Int) × Bool) := run spec_NeedlessClues.g T spec_NeedlessClues.i [.v (.pair (.int .i64) (.slice (.pair (.int .i64) (.pair (.int .i64) (.int .i64))))) x0]
noncomputable def spec_NeedlessClues.l0 (x4 : List Int) (x5 : Int) (x18 : Int) (x19 : Int) (xb1_0 : Int) (xb1_1 : List (Int × Int × Int)) : Option ((List Int) × Bool) := runAt spec_NeedlessClues.g T spec_NeedlessClues.i [true, true, true, true, false, true, false] [(1, .ptr 1 0), (4, .own 3 (.int .i64) x4), (5, .val (.int .i64) x5), (18, .val (.int .i64) x18), (19, .val (.int .i64) x19)] [(1, [⟨(.int .i64), xb1_0⟩, ⟨(.slice (.pair (.int .i64) (.pair (.int .i64) (.int .i64)))), xb1_1⟩])]
theorem spec_NeedlessClues.f.eq (x0 : Int × (List (Int × Int × Int))) : spec_NeedlessClues.f x0 =
 (spec_pzGood.f (x0.1, x0.2)).bind fun y1 =>
 if (!y1) = true then
  some ([], false)
 else
  (spec_pzAll.f x0.1 x0.2).bind fun y2 =>
  spec_NeedlessClues.l0 [] (y2.length : Int) (x0.2.length : Int) 0 x0.1 x0.2 := by kernel_rfl
theorem spec_NeedlessClues.l0.eq (x4 : List Int) (x5 : Int) (x18 : Int) (x19 : Int) (xb1_0 : Int) (xb1_1 : List (Int × Int × Int)) : spec_NeedlessClues.l0 x4 x5 x18 x19 xb1_0 xb1_1 =
 if (decide (x19 < x18)) = true then
  (spec_pzWithout.f xb1_1 x19).bind fun y2 =>
  (spec_pzAll.f xb1_0 y2).bind fun y3 =>
  if ((y3.length : Int) == x5) = true then
   (catI (appMax 8) x4 [x19]).bind fun y5 =>
   spec_NeedlessClues.l0 y5 x5 x18 (IntKind.i64.wrap (x19 + 1)) xb1_0 xb1_1
  else
   spec_NeedlessClues.l0 x4 x5 x18 (IntKind.i64.wrap (x19 + 1)) xb1_0 xb1_1
 else
  some (x4, true) := (runAt_loop _ _ _ _ _ _).trans (by kernel_rfl)
noncomputable def impl_LeftByClues.g : Gam := [(26, impl_IsPuzzle.sp), (44, impl_solutions.sp)]
theorem impl_LeftByClues.gok : GOkI Tryz.prog I impl_LeftByClues.g := ((GOkI.nil _ _).cons impl_solutions.ok).cons impl_IsPuzzle.ok
noncomputable def impl_LeftByClues.i : FI := ⟨Tryz.f18, body Tryz.f18, (.seq .nil (.seq (.seq .nil (.cond (.seq .nil .nil) .nil)) (.seq .nil (.seq (.seq .nil (.blk (.loop [1, 4, 13, 14] [1] (.seq .nil (.seq (.cond .nil .nil) (.seq (.blk (.seq .nil .nil)) .nil)))))) (.seq .nil .nil))))), [], [], [.res (.tmp 2) (.own 3 (.int .i64)), .res (.tmp 3) (.v .bool)]⟩
noncomputable def impl_LeftByClues.sp : CSpec := mkSpec impl_LeftByClues.g T impl_LeftByClues.i
theorem impl_LeftByClues.ok : SpecOk Tryz.prog I 18 impl_LeftByClues.sp := mkSpec_ok hmix hI impl_LeftByClues.gok tok impl_LeftByClues.i Tryz.func18 (by kernel_rfl) (by kernel_rfl) (by kernel_rfl) (by kernel_rfl)
noncomputable def impl_LeftByClues.f (x0 : Int × (List (Int × Int × Int))) : Option ((List Int) × Bool) := run impl_LeftByClues.g T impl_LeftByClues.i [.v (.pair (.int .i64) (.slice (.pair (.int .i64) (.pair (.int .i64) (.int .i64))))) x0]
noncomputable def impl_LeftByClues.l0 (x4 : List Int) (x13 : Int) (x14 : Int) (xb1_0 : Int) (xb1_1 : List (Int × Int × Int)) : Option ((List Int) × Bool) := runAt impl_LeftByClues.g T impl_LeftByClues.i [true, true, true, false, true, false] [(1, .ptr 1 0), (4, .own 3 (.int .i64) x4), (13, .val (.int .i64) x13), (14, .val (.int .i64) x14)] [(1, [⟨(.int .i64), xb1_0⟩, ⟨(.slice (.pair (.int .i64) (.pair (.int .i64) (.int .i64)))), xb1_1⟩])]
theorem impl_LeftByClues.f.eq (x0 : Int × (List (Int × Int × Int))) : impl_LeftByClues.f x0 =
 (impl_IsPuzzle.f (x0.1, x0.2)).bind fun y1 =>
 if (!y1) = true then
  some ([], false)
 else
  impl_LeftByClues.l0 [] (IntKind.i64.wrap ((x0.2.length : Int) + 1)) 0 x0.1 x0.2 := by kernel_rfl
theorem impl_LeftByClues.l0.eq (x4 : List Int) (x13 : Int) (x14 : Int) (xb1_0 : Int) (xb1_1 : List (Int × Int × Int)) : impl_LeftByClues.l0 x4 x13 x14 xb1_0 xb1_1 =
 if (decide (x14 < x13)) = true then
  (subI xb1_1 0 x14).bind fun y2 =>
  (impl_solutions.f xb1_0 y2).bind fun y3 =>
  (catI (appMax 8) x4 [(y3.length : Int)]).bind fun y5 =>
  impl_LeftByClues.l0 y5 x13 (IntKind.i64.wrap (x14 + 1)) xb1_0 xb1_1
 else
  some (x4, true) := (runAt_loop _ _ _ _ _ _).trans (by kernel_rfl)
noncomputable def spec_LeftByClues.g : Gam := [(39, spec_pzGood.sp), (40, spec_pzAll.sp)]
theorem spec_LeftByClues.gok : GOkI Tryz.prog I spec_LeftByClues.g := ((GOkI.nil _ _).cons spec_pzAll.ok).cons spec_pzGood.ok
noncomputable def spec_LeftByClues.i : FI := ⟨Tryz.f19, body Tryz.f19, (.seq .nil (.seq (.seq .nil (.cond (.seq .nil .nil) .nil)) (.seq .nil (.seq (.seq .nil (.blk (.loop [1, 4, 5] [1] (.seq (.seq .nil (.cond .nil .nil)) (.seq (.blk .nil) .nil))))) (.seq .nil .nil))))), [], [], [.res (.tmp 2) (.own 3 (.int .i64)), .res (.tmp 3) (.v .bool)]⟩
noncomputable def spec_LeftByClues.sp : CSpec := mkSpec spec_LeftByClues.g T spec_LeftByClues.i
theorem spec_LeftByClues.ok : SpecOk Tryz.prog I 19 spec_LeftByClues.sp := mkSpec_ok hmix hI spec_LeftByClues.gok tok spec_LeftByClues.i Tryz.func19 (by kernel_rfl) (by kernel_rfl) (by kernel_rfl) (by kernel_rfl)
noncomputable def spec_LeftByClues.f (x0 : Int × (List (Int × Int × Int))) : Option ((List Int) × Bool) := run spec_LeftByClues.g T spec_LeftByClues.i [.v (.pair (.int .i64) (.slice (.pair (.int .i64) (.pair (.int .i64) (.int .i64))))) x0]
noncomputable def spec_LeftByClues.l0 (x4 : List Int) (x5 : Int) (xb1_0 : Int) (xb1_1 : List (Int × Int × Int)) : Option ((List Int) × Bool) := runAt spec_LeftByClues.g T spec_LeftByClues.i [true, true, true, false, true, false] [(1, .ptr 1 0), (4, .own 3 (.int .i64) x4), (5, .val (.int .i64) x5)] [(1, [⟨(.int .i64), xb1_0⟩, ⟨(.slice (.pair (.int .i64) (.pair (.int .i64) (.int .i64)))), xb1_1⟩])]
theorem spec_LeftByClues.f.eq (x0 : Int × (List (Int × Int × Int))) : spec_LeftByClues.f x0 =
 (spec_pzGood.f (x0.1, x0.2)).bind fun y1 =>
 if (!y1) = true then
  some ([], false)
 else
  spec_LeftByClues.l0 [] 0 x0.1 x0.2 := by kernel_rfl
theorem spec_LeftByClues.l0.eq (x4 : List Int) (x5 : Int) (xb1_0 : Int) (xb1_1 : List (Int × Int × Int)) : spec_LeftByClues.l0 x4 x5 xb1_0 xb1_1 =
 if (decide (x5 ≤ (xb1_1.length : Int))) = true then
  (subI xb1_1 0 x5).bind fun y3 =>
  (spec_pzAll.f xb1_0 y3).bind fun y4 =>
  (catI (appMax 8) x4 [(y4.length : Int)]).bind fun y6 =>
  spec_LeftByClues.l0 y6 (IntKind.i64.wrap (x5 + 1)) xb1_0 xb1_1
 else
  some (x4, true) := (runAt_loop _ _ _ _ _ _).trans (by kernel_rfl)
noncomputable def impl_BestClue.g : Gam := [(26, impl_IsPuzzle.sp), (44, impl_solutions.sp)]
theorem impl_BestClue.gok : GOkI Tryz.prog I impl_BestClue.g := ((GOkI.nil _ _).cons impl_solutions.ok).cons impl_IsPuzzle.ok
noncomputable def impl_BestClue.i : FI := ⟨Tryz.f20, body Tryz.f20, (.seq .nil (.seq (.cut [1, 17] [1] .nil (.cond (.seq .nil .nil) .nil)) (.seq .nil (.seq (.seq .nil (.blk (.loop [1, 4, 5, 19, 20, 21] [1] (.seq .nil (.seq (.cond .nil .nil) (.seq (.blk (.seq .nil (.seq .nil (.seq .nil (.cond .nil .nil))))) .nil)))))) (.seq .nil .nil))))), [], [], [.res (.tmp 2) (.v (.int .i64)), .res (.tmp 3) (.v .bool)]⟩
noncomputable def impl_BestClue.sp : CSpec := mkSpec impl_BestClue.g T impl_BestClue.i
theorem impl_BestClue.ok : SpecOk Tryz.prog I 20 impl_BestClue.sp := mkSpec_ok hmix hI impl_BestClue.gok tok impl_BestClue.i Tryz.func20 (by kernel_rfl) (by kernel_rfl) (by kernel_rfl) (by kernel_rfl)
noncomputable def impl_BestClue.f (x0 : Int × (List (Int × Int × Int))) : Option (Int × Bool) := run impl_BestClue.g T impl_BestClue.i [.v (.pair (.int .i64) (.slice (.pair (.int .i64) (.pair (.int .i64) (.int .i64))))) x0]
noncomputable def impl_BestClue.j0 (x17 : Bool) (xb1_0 : Int) (xb1_1 : List (Int × Int × Int)) : Option (Int × Bool) := runJ impl_BestClue.g T impl_BestClue.i [true, false, true] [(1, .ptr 1 0), (17, .val .bool x17)] [(1, [⟨(.int .i64), xb1_0⟩, ⟨(.slice (.pair (.int .i64) (.pair (.int .i64) (.int .i64)))), xb1_1⟩])]
noncomputable def impl_BestClue.l0 (x4 : Int) (x5 : Int) (x19 : List (Int × Int × Int)) (x20 : Int) (x21 : Int) (xb1_0 : Int) (xb1_1 : List (Int × Int × Int)) : Option (Int × Bool) := runAt impl_BestClue.g T impl_BestClue.i [true, true, true, false, true, false] [(1, .ptr 1 0), (4, .val (.int .i64) x4), (5, .val (.int .i64) x5), (19, .val (.slice (.pair (.int .i64) (.pair (.int .i64) (.int .i64)))) x19), (20, .val (.int .i64) x20), (21, .val (.int .i64) x21)] [(1, [⟨(.int .i64), xb1_0⟩, ⟨(.slice (.pair (.int .i64) (.pair (.int .i64) (.int .i64)))), xb1_1⟩])]
theorem impl_BestClue.f.eq (x0 : Int × (List (Int × Int × Int))) : impl_BestClue.f x0 =
 (impl_IsPuzzle.f (x0.1, x0.2)).bind fun y1 =>
 if (!y1) = true then
  impl_BestClue.j0 true x0.1 x0.2
 else
  impl_BestClue.j0 (if false = true then true else (x0.2.length : Int) == 0) x0.1 x0.2 := by kernel_rfl
theorem impl_BestClue.j0.eq (x17 : Bool) (xb1_0 : Int) (xb1_1 : List (Int × Int × Int)) : impl_BestClue.j0 x17 xb1_0 xb1_1 =
 if x17 = true then
  some (0, false)
 else
  impl_BestClue.l0 0 (-1) xb1_1 (xb1_1.length : Int) 0 xb1_0 xb1_1 := (runJ_eq _ _ _ _ _ _).trans (by kernel_rfl)
theorem impl_BestClue.l0.eq (x4 : Int) (x5 : Int) (x19 : List (Int × Int × Int)) (x20 : Int) (x21 : Int) (xb1_0 : Int) (xb1_1 : List (Int × Int × Int)) : impl_BestClue.l0 x4 x5 x19 x20 x21 xb1_0 xb1_1 =
 if (decide (x21 < x20)) = true then
  (rdI x19 x21).bind fun y2 =>
  (impl_solutions.f xb1_0 [(y2.1, y2.2.1, y2.2.2)]).bind fun y3 =>
  if (decide (x5 < 0)) = true then
   impl_BestClue.l0 x21 (y3.length : Int) x19 x20 (IntKind.i64.wrap (x21 + 1)) xb1_0 xb1_1
  else
   if (if false = true then true else (decide ((y3.length : Int) < x5))) = true then
    impl_BestClue.l0 x21 (y3.length : Int) x19 x20 (IntKind.i64.wrap (x21 + 1)) xb1_0 xb1_1
   else
    impl_BestClue.l0 x4 x5 x19 x20 (IntKind.i64.wrap (x21 + 1)) xb1_0 xb1_1
 else
  some (x4, true) := (runAt_loop _ _ _ _ _ _).trans (by kernel_rfl)
noncomputable def spec_BestClue.g : Gam := [(39, spec_pzGood.sp), (40, spec_pzAll.sp)]
theorem spec_BestClue.gok : GOkI Tryz.prog I spec_BestClue.g := ((GOkI.nil _ _).cons spec_pzAll.ok).cons spec_pzGood.ok
noncomputable def spec_BestClue.i : FI := ⟨Tryz.f21, body Tryz.f21, (.seq .nil (.seq (.cut [1, 16] [1] .nil (.cond (.seq .nil .nil) .nil)) (.seq .nil (.seq (.seq .nil (.blk (.loop [1, 4, 5, 19, 20] [1] (.seq .nil (.seq (.cond .nil .nil) (.seq (.blk (.seq .nil (.seq .nil (.seq .nil (.cond (.seq .nil .nil) .nil))))) .nil)))))) (.seq .nil .nil))))), [], [], [.res (.tmp 2) (.v (.int .i64)), .res (.tmp 3) (.v .bool)]⟩
noncomputable def spec_BestClue.sp : CSpec := mkSpec spec_BestClue.g T spec_BestClue.i
theorem spec_BestClue.ok : SpecOk Tryz.prog I 21 spec_BestClue.sp := mkSpec_ok hmix hI spec_BestClue.gok tok spec_BestClue.i Tryz.func21 (by kernel_rfl) (by kernel_rfl) (by kernel_rfl) (by kernel_rfl)
noncomputable def spec_BestClue.f (x0 : Int × (List (Int × Int × Int))) : Option (Int × Bool) := run spec_BestClue.g T spec_BestClue.i [.v (.pair (.int .i64) (.slice (.pair (.int .i64) (.pair (.int .i64) (.int .i64))))) x0]
noncomputable def spec_BestClue.j0 (x16 : Bool) (xb1_0 : Int) (xb1_1 : List (Int × Int × Int)) : Option (Int × Bool) := runJ spec_BestClue.g T spec_BestClue.i [true, false, true] [(1, .ptr 1 0), (16, .val .bool x16)] [(1, [⟨(.int .i64), xb1_0⟩, ⟨(.slice (.pair (.int .i64) (.pair (.int .i64) (.int .i64)))), xb1_1⟩])]
noncomputable def spec_BestClue.l0 (x4 : Int) (x5 : Int) (x19 : Int) (x20 : Int) (xb1_0 : Int) (xb1_1 : List (Int × Int × Int)) : Option (Int × Bool) := runAt spec_BestClue.g T spec_BestClue.i [true, true, true, false, true, false] [(1, .ptr 1 0), (4, .val (.int .i64) x4), (5, .val (.int .i64) x5), (19, .val (.int .i64) x19), (20, .val (.int .i64) x20)] [(1, [⟨(.int .i64), xb1_0⟩, ⟨(.slice (.pair (.int .i64) (.pair (.int .i64) (.int .i64)))), xb1_1⟩])]
theorem spec_BestClue.f.eq (x0 : Int × (List (Int × Int × Int))) : spec_BestClue.f x0 =
 (spec_pzGood.f (x0.1, x0.2)).bind fun y1 =>
 if (!y1) = true then
  spec_BestClue.j0 true x0.1 x0.2
 else
  spec_BestClue.j0 (if false = true then true else (x0.2.length : Int) == 0) x0.1 x0.2 := by kernel_rfl
theorem spec_BestClue.j0.eq (x16 : Bool) (xb1_0 : Int) (xb1_1 : List (Int × Int × Int)) : spec_BestClue.j0 x16 xb1_0 xb1_1 =
 if x16 = true then
  some (0, false)
 else
  spec_BestClue.l0 0 0 (xb1_1.length : Int) 0 xb1_0 xb1_1 := (runJ_eq _ _ _ _ _ _).trans (by kernel_rfl)
theorem spec_BestClue.l0.eq (x4 : Int) (x5 : Int) (x19 : Int) (x20 : Int) (xb1_0 : Int) (xb1_1 : List (Int × Int × Int)) : spec_BestClue.l0 x4 x5 x19 x20 xb1_0 xb1_1 =
 if (decide (x20 < x19)) = true then
  (subI xb1_1 x20 (IntKind.i64.wrap (x20 + 1))).bind fun y3 =>
  (spec_pzAll.f xb1_0 y3).bind fun y4 =>
  if (x20 == 0) = true then
   spec_BestClue.l0 x20 (y4.length : Int) x19 (IntKind.i64.wrap (x20 + 1)) xb1_0 xb1_1
  else
   if (if false = true then true else (decide ((y4.length : Int) < x5))) = true then
    spec_BestClue.l0 x20 (y4.length : Int) x19 (IntKind.i64.wrap (x20 + 1)) xb1_0 xb1_1
   else
    spec_BestClue.l0 x4 x5 x19 (IntKind.i64.wrap (x20 + 1)) xb1_0 xb1_1
 else
  some (x4, true) := (runAt_loop _ _ _ _ _ _).trans (by kernel_rfl)
noncomputable def impl_joined.g : Gam := [(83, strconv_Itoa.sp), (75, strings_Join.sp)]
theorem impl_joined.gok : GOkI Tryz.prog I impl_joined.g := ((GOkI.nil _ _).cons strings_Join.ok).cons strconv_Itoa.ok
noncomputable def impl_joined.i : FI := ⟨Tryz.f73, body Tryz.f73, (.seq .nil (.seq .nil (.seq (.seq .nil (.blk (.loop [1, 5, 9, 10, 11] [] (.seq .nil (.seq (.cond .nil .nil) (.seq (.blk (.seq .nil .nil)) .nil)))))) (.seq .nil .nil)))), [], [], [.res (.tmp 4) (.v .str)]⟩
noncomputable def impl_joined.sp : CSpec := mkSpec impl_joined.g T impl_joined.i
theorem impl_joined.ok : SpecOk Tryz.prog I 73 impl_joined.sp := mkSpec_ok hmix hI impl_joined.gok tok impl_joined.i Tryz.func73 (by kernel_rfl) (by kernel_rfl) (by kernel_rfl) (by kernel_rfl)
noncomputable def impl_joined.f (x0 : List Int) (x1 : List UInt8) : Option (List UInt8) := run impl_joined.g T impl_joined.i [.v (.slice (.int .i64)) x0, .v .str x1]
noncomputable def impl_joined.l0 (x1 : List UInt8) (x5 : List (List UInt8)) (x9 : List Int) (x10 : Int) (x11 : Int) : Option (List UInt8) := runAt impl_joined.g T impl_joined.i [true, true, false, true, false] [(1, .val .str x1), (5, .own 9 .str x5), (9, .val (.slice (.int .i64)) x9), (10, .val (.int .i64) x10), (11, .val (.int .i64) x11)] []
theorem impl_joined.f.eq (x0 : List Int) (x1 : List UInt8) : impl_joined.f x0 x1 =
 impl_joined.l0 x1 [] x0 (x0.length : Int) 0 := by kernel_rfl
theorem impl_joined.l0.eq (x1 : List UInt8) (x5 : List (List UInt8)) (x9 : List Int) (x10 : Int) (x11 : Int) : impl_joined.l0 x1 x5 x9 x10 x11 =
 if (decide (x11 < x10)) = true then
  (rdI x9 x11).bind fun y2 =>
  (strconv_Itoa.f y2).bind fun y3 =>
  (catI (appMax 16) x5 [y3]).bind fun y4 =>
  impl_joined.l0 x1 y4 x9 x10 (IntKind.i64.wrap (x11 + 1))
 else
  (strings_Join.f x5 x1).bind fun y6 =>
  some y6 := (runAt_loop _ _ _ _ _ _).trans (by kernel_rfl)
noncomputable def impl_textOf.g : Gam := [(83, strconv_Itoa.sp)]
theorem impl_textOf.gok : GOkI Tryz.prog I impl_textOf.g := (GOkI.nil _ _).cons strconv_Itoa.ok
noncomputable def impl_textOf.i : FI := ⟨Tryz.f74, body Tryz.f74, (.seq .nil (.seq .nil .nil)), [], [], [.res (.tmp 2) (.v .str)]⟩
noncomputable def impl_textOf.sp : CSpec := mkSpec impl_textOf.g T impl_textOf.i
theorem impl_textOf.ok : SpecOk Tryz.prog I 74 impl_textOf.sp := mkSpec_ok hmix hI impl_textOf.gok tok impl_textOf.i Tryz.func74 (by kernel_rfl) (by kernel_rfl) (by kernel_rfl) (by kernel_rfl)
noncomputable def impl_textOf.f (x0 : Int) : Option (List UInt8) := run impl_textOf.g T impl_textOf.i [.v (.int .i64) x0]
theorem impl_textOf.f.eq (x0 : Int) : impl_textOf.f x0 =
 (strconv_Itoa.f x0).bind fun y1 =>
 some y1 := by kernel_rfl
noncomputable def impl_Puzzle_text.g : Gam := [(73, impl_joined.sp), (74, impl_textOf.sp), (75, strings_Join.sp)]
theorem impl_Puzzle_text.gok : GOkI Tryz.prog I impl_Puzzle_text.g := (((GOkI.nil _ _).cons strings_Join.ok).cons impl_textOf.ok).cons impl_joined.ok
noncomputable def impl_Puzzle_text.i : FI := ⟨Tryz.f47, body Tryz.f47, (.seq .nil (.seq .nil (.seq (.seq .nil (.blk (.loop [1, 3, 8, 9, 10] [1] (.seq .nil (.seq (.cond .nil .nil) (.seq (.blk (.seq .nil .nil)) .nil)))))) (.seq .nil .nil)))), [], [], [.res (.tmp 2) (.v .str)]⟩
noncomputable def impl_Puzzle_text.sp : CSpec := mkSpec impl_Puzzle_text.g T impl_Puzzle_text.i
theorem impl_Puzzle_text.ok : SpecOk Tryz.prog I 47 impl_Puzzle_text.sp := mkSpec_ok hmix hI impl_Puzzle_text.gok tok impl_Puzzle_text.i Tryz.func47 (by kernel_rfl) (by kernel_rfl) (by kernel_rfl) (by kernel_rfl)
noncomputable def impl_Puzzle_text.f (x0 : Int × (List (Int × Int × Int))) : Option (List UInt8) := run impl_Puzzle_text.g T impl_Puzzle_text.i [.v (.pair (.int .i64) (.slice (.pair (.int .i64) (.pair (.int .i64) (.int .i64))))) x0]
noncomputable def impl_Puzzle_text.l0 (x3 : List (List UInt8)) (x8 : List (Int × Int × Int)) (x9 : Int) (x10 : Int) (xb1_0 : Int) (xb1_1 : List (Int × Int × Int)) : Option (List UInt8) := runAt impl_Puzzle_text.g T impl_Puzzle_text.i [true, true, false, true, false] [(1, .ptr 1 0), (3, .own 9 .str x3), (8, .val (.slice (.pair (.int .i64) (.pair (.int .i64) (.int .i64)))) x8), (9, .val (.int .i64) x9), (10, .val (.int .i64) x10)] [(1, [⟨(.int .i64), xb1_0⟩, ⟨(.slice (.pair (.int .i64) (.pair (.int .i64) (.int .i64)))), xb1_1⟩])]
theorem impl_Puzzle_text.f.eq (x0 : Int × (List (Int × Int × Int))) : impl_Puzzle_text.f x0 =
 impl_Puzzle_text.l0 [] x0.2 (x0.2.length : Int) 0 x0.1 x0.2 := by kernel_rfl
theorem impl_Puzzle_text.l0.eq (x3 : List (List UInt8)) (x8 : List (Int × Int × Int)) (x9 : Int) (x10 : Int) (xb1_0 : Int) (xb1_1 : List (Int × Int × Int)) : impl_Puzzle_text.l0 x3 x8 x9 x10 xb1_0 xb1_1 =
 if (decide (x10 < x9)) = true then
  (rdI x8 x10).bind fun y2 =>
  (impl_joined.f [y2.1, y2.2.1, y2.2.2] [46]).bind fun y3 =>
  (catI (appMax 16) x3 [y3]).bind fun y4 =>
  impl_Puzzle_text.l0 y4 x8 x9 (IntKind.i64.wrap (x10 + 1)) xb1_0 xb1_1
 else
  (impl_textOf.f xb1_0).bind fun y6 =>
  (catI strMax y6 [97]).bind fun y7 =>
  (strings_Join.f x3 [44]).bind fun y8 =>
  (catI strMax y7 y8).bind fun y9 =>
  some y9 := (runAt_loop _ _ _ _ _ _).trans (by kernel_rfl)
end Go.Proofs.YtecdijlfnnminaaGreatDoor.S
