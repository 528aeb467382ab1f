/- What the functions of this seat come to, over plain values. No condition. -/
import Derived.Test.YtpnkeknmgfdpdaaGreatDoorRRK1
namespace Go.Proofs.YtpnkeknmgfdpdaaGreatDoorRR.S
open Go Go.Proofs.YtpnkeknmgfdpdaaGreatDoorRR.Eng Go.Proofs
set_option maxRecDepth 1000000
set_option linter.unusedVariables false
noncomputable def spec_DrawParseBorn.g : Gam := [(101, spec_l1Cur_sureBorn.sp), (100, spec_roText.sp), (87, spec_l1Cur_one.sp), (102, spec_l1Cur_spoilt.sp)]
theorem spec_DrawParseBorn.gok : GOkI Tryz.prog I spec_DrawParseBorn.g := ((((GOkI.nil _ _).cons spec_l1Cur_spoilt.ok).cons spec_l1Cur_one.ok).cons spec_roText.ok).cons spec_l1Cur_sureBorn.ok
noncomputable def spec_DrawParseBorn.i : FI := ⟨Tryz.f31, body Tryz.f31, (.seq .nil (.seq .nil (.seq .nil (.seq (.seq .nil (.cond .nil .nil)) (.seq .nil .nil))))), [], [], [.res (.tmp 2) (.v .str)]⟩
noncomputable def spec_DrawParseBorn.sp : CSpec := mkSpec spec_DrawParseBorn.g T spec_DrawParseBorn.i
theorem spec_DrawParseBorn.ok : SpecOk Tryz.prog I 31 spec_DrawParseBorn.sp := mkSpec_ok hmix hI spec_DrawParseBorn.gok tok spec_DrawParseBorn.i Tryz.func31 (by kernel_rfl) (by kernel_rfl) (by kernel_rfl) (by kernel_rfl)
noncomputable def spec_DrawParseBorn.f (x0 : List Int) : Option (List UInt8) := run spec_DrawParseBorn.g T spec_DrawParseBorn.i [.v (.slice (.int .u8)) x0]
theorem spec_DrawParseBorn.f.eq (x0 : List Int) : spec_DrawParseBorn.f x0 =
  (spec_l1Cur_sureBorn.f x0 0 0 4).bind fun y1 =>
  (spec_roText.f y1.1).bind fun y2 =>
  (spec_l1Cur_one.f y1.2.1 y1.2.2.1 y1.2.2.2 3).bind fun y3 =>
  if y3.1 = true then
    (spec_l1Cur_spoilt.f y3.2.1 y3.2.2.1 y3.2.2.2 y2 [48, 49, 50, 57, 44, 120]).bind fun y4 =>
    some y4.1
  else
    some y2 := by kernel_rfl
noncomputable def impl_readNumbers.g : Gam := [(130, strings_Split.sp), (150, impl_readNumber.sp)]
theorem impl_readNumbers.gok : GOkI Tryz.prog I impl_readNumbers.g := ((GOkI.nil _ _).cons impl_readNumber.ok).cons strings_Split.ok
noncomputable def impl_readNumbers.i : FI := ⟨Tryz.f103, body Tryz.f103, (.seq .nil (.seq .nil (.seq (.seq .nil (.blk (.loop [6, 14, 15, 16] [] (.seq .nil (.seq (.cond .nil .nil) (.seq (.blk (.seq .nil (.seq .nil (.seq (.seq .nil (.cond (.seq .nil .nil) .nil)) .nil)))) .nil)))))) (.seq .nil .nil)))), [], [], [.res (.tmp 4) (.own 3 (.int .i64)), .res (.tmp 5) (.v .bool)]⟩
noncomputable def impl_readNumbers.sp : CSpec := mkSpec impl_readNumbers.g T impl_readNumbers.i
theorem impl_readNumbers.ok : SpecOk Tryz.prog I 103 impl_readNumbers.sp := mkSpec_ok hmix hI impl_readNumbers.gok tok impl_readNumbers.i Tryz.func103 (by kernel_rfl) (by kernel_rfl) (by kernel_rfl) (by kernel_rfl)
noncomputable def impl_readNumbers.f (x0 : List UInt8) (x1 : List UInt8) : Option ((List Int) × Bool) := run impl_readNumbers.g T impl_readNumbers.i [.v .str x0, .v .str x1]
noncomputable def impl_readNumbers.l0 (x6 : List Int) (x14 : List (List UInt8)) (x15 : Int) (x16 : Int) : Option ((List Int) × Bool) := runAt impl_readNumbers.g T impl_readNumbers.i [true, true, false, true, false] [(6, .own 3 (.int .i64) x6), (14, .val (.slice .str) x14), (15, .val (.int .i64) x15), (16, .val (.int .i64) x16)] []
theorem impl_readNumbers.f.eq (x0 : List UInt8) (x1 : List UInt8) : impl_readNumbers.f x0 x1 =
  (strings_Split.f x0 x1).bind fun y1 =>
  impl_readNumbers.l0 [] y1 (y1.length : Int) 0 := by kernel_rfl
theorem impl_readNumbers.l0.eq (x6 : List Int) (x14 : List (List UInt8)) (x15 : Int) (x16 : Int) : impl_readNumbers.l0 x6 x14 x15 x16 =
  if (decide (x16 < x15)) = true then
    (rdI x14 x16).bind fun y2 =>
    (impl_readNumber.f y2).bind fun y3 =>
    if (!y3.2) = true then
      some ([], false)
    else
      (catI (appMax 8) x6 [y3.1]).bind fun y4 =>
      impl_readNumbers.l0 y4 x14 x15 (IntKind.i64.wrap (x16 + 1))
  else
    some (x6, true) := (runAt_loop _ _ _ _ _ _).trans (by kernel_rfl)
noncomputable def impl_ParseBorn.g : Gam := [(103, impl_readNumbers.sp), (96, impl_bornOr.sp)]
theorem impl_ParseBorn.gok : GOkI Tryz.prog I impl_ParseBorn.g := ((GOkI.nil _ _).cons impl_bornOr.ok).cons impl_readNumbers.ok
noncomputable def impl_ParseBorn.i : FI := ⟨Tryz.f32, body Tryz.f32, (.seq .nil (.seq .nil (.seq (.seq .nil (.cond (.seq .nil .nil) .nil)) (.seq .nil .nil)))), [], [], [.res (.tmp 2) (.v (.slice (.int .i64))), .res (.tmp 3) (.v .bool)]⟩
noncomputable def impl_ParseBorn.sp : CSpec := mkSpec impl_ParseBorn.g T impl_ParseBorn.i
theorem impl_ParseBorn.ok : SpecOk Tryz.prog I 32 impl_ParseBorn.sp := mkSpec_ok hmix hI impl_ParseBorn.gok tok impl_ParseBorn.i Tryz.func32 (by kernel_rfl) (by kernel_rfl) (by kernel_rfl) (by kernel_rfl)
noncomputable def impl_ParseBorn.f (x0 : List UInt8) : Option ((List Int) × Bool) := run impl_ParseBorn.g T impl_ParseBorn.i [.v .str x0]
theorem impl_ParseBorn.f.eq (x0 : List UInt8) : impl_ParseBorn.f x0 =
  (impl_readNumbers.f x0 [44]).bind fun y1 =>
  if (!y1.2) = true then
    some ([], false)
  else
    (impl_bornOr.f y1.1).bind fun y2 =>
    some (y2.1, y2.2) := by kernel_rfl
noncomputable def spec_l1Split.g : Gam := []
theorem spec_l1Split.gok : GOkI Tryz.prog I spec_l1Split.g := GOkI.nil _ _
noncomputable def spec_l1Split.i : FI := ⟨Tryz.f104, body Tryz.f104, (.seq .nil (.seq .nil (.seq .nil (.seq (.seq .nil (.blk (.loop [0, 1, 5, 6, 7] [] (.seq (.seq .nil (.cond .nil .nil)) (.seq (.blk (.seq .nil (.cond (.seq .nil .nil) .nil))) .nil))))) (.seq .nil .nil))))), [], [], [.res (.tmp 4) (.own 9 .str)]⟩
noncomputable def spec_l1Split.sp : CSpec := mkSpec spec_l1Split.g T spec_l1Split.i
theorem spec_l1Split.ok : SpecOk Tryz.prog I 104 spec_l1Split.sp := mkSpec_ok hmix hI spec_l1Split.gok tok spec_l1Split.i Tryz.func104 (by kernel_rfl) (by kernel_rfl) (by kernel_rfl) (by kernel_rfl)
noncomputable def spec_l1Split.f (x0 : List UInt8) (x1 : Int) : Option (List (List UInt8)) := run spec_l1Split.g T spec_l1Split.i [.v .str x0, .v (.int .u8) x1]
noncomputable def spec_l1Split.l0 (x0 : List UInt8) (x1 : Int) (x5 : List (List UInt8)) (x6 : Int) (x7 : Int) : Option (List (List UInt8)) := runAt spec_l1Split.g T spec_l1Split.i [true, true, true, false, true, false] [(0, .val .str x0), (1, .val (.int .u8) x1), (5, .own 9 .str x5), (6, .val (.int .i64) x6), (7, .val (.int .i64) x7)] []
theorem spec_l1Split.f.eq (x0 : List UInt8) (x1 : Int) : spec_l1Split.f x0 x1 =
  spec_l1Split.l0 x0 x1 [] 0 0 := by kernel_rfl
theorem spec_l1Split.l0.eq (x0 : List UInt8) (x1 : Int) (x5 : List (List UInt8)) (x6 : Int) (x7 : Int) : spec_l1Split.l0 x0 x1 x5 x6 x7 =
  if (decide (x7 < (x0.length : Int))) = true then
    (rdI x0 x7).bind fun y3 =>
    if ((y3.toNat : Int) == x1) = true then
      (subI x0 x6 x7).bind fun y5 =>
      (catI (appMax 16) x5 [y5]).bind fun y6 =>
      spec_l1Split.l0 x0 x1 y6 (IntKind.i64.wrap (x7 + 1)) (IntKind.i64.wrap (x7 + 1))
    else
      spec_l1Split.l0 x0 x1 x5 x6 (IntKind.i64.wrap (x7 + 1))
  else
    (subI x0 x6 x0.length).bind fun y10 =>
    (catI (appMax 16) x5 [y10]).bind fun y11 =>
    some y11 := (runAt_loop _ _ _ _ _ _).trans (by kernel_rfl)
noncomputable def spec_l1Read.g : Gam := [(92, spec_l1In.sp)]
theorem spec_l1Read.gok : GOkI Tryz.prog I spec_l1Read.g := (GOkI.nil _ _).cons spec_l1In.ok
noncomputable def spec_l1Read.i : FI := ⟨Tryz.f105, body Tryz.f105, (.seq .nil (.seq (.cut [0, 18] [] .nil (.cond (.seq .nil .nil) .nil)) (.seq .nil (.seq (.seq .nil (.blk (.loop [0, 3, 4] [] (.seq (.seq .nil (.cond .nil .nil)) (.seq (.blk (.seq (.seq .nil (.cond (.seq .nil .nil) .nil)) .nil)) .nil))))) (.seq .nil .nil))))), [], [], [.res (.tmp 2) (.v (.int .i64))]⟩
noncomputable def spec_l1Read.sp : CSpec := mkSpec spec_l1Read.g T spec_l1Read.i
theorem spec_l1Read.ok : SpecOk Tryz.prog I 105 spec_l1Read.sp := mkSpec_ok hmix hI spec_l1Read.gok tok spec_l1Read.i Tryz.func105 (by kernel_rfl) (by kernel_rfl) (by kernel_rfl) (by kernel_rfl)
noncomputable def spec_l1Read.f (x0 : List UInt8) : Option (Int) := run spec_l1Read.g T spec_l1Read.i [.v .str x0]
noncomputable def spec_l1Read.j0 (x0 : List UInt8) (x18 : Bool) : Option (Int) := runJ spec_l1Read.g T spec_l1Read.i [true, false, true] [(0, .val .str x0), (18, .val .bool x18)] []
noncomputable def spec_l1Read.l0 (x0 : List UInt8) (x3 : Int) (x4 : Int) : Option (Int) := runAt spec_l1Read.g T spec_l1Read.i [true, true, true, false, true, false] [(0, .val .str x0), (3, .val (.int .i64) x3), (4, .val (.int .i64) x4)] []
theorem spec_l1Read.f.eq (x0 : List UInt8) : spec_l1Read.f x0 =
  (spec_l1In.f (x0.length : Int) 1 6).bind fun y2 =>
  if (!y2) = true then
    spec_l1Read.j0 x0 true
  else
    (rdI x0 0).bind fun y17 =>
    if ((y17.toNat : Int) == 48) = true then
      spec_l1Read.j0 x0 (if false = true then true else (if true = true then (decide ((x0.length : Int) > 1)) else false))
    else
      spec_l1Read.j0 x0 false := by kernel_rfl
theorem spec_l1Read.j0.eq (x0 : List UInt8) (x18 : Bool) : spec_l1Read.j0 x0 x18 =
  if x18 = true then
    some (-1)
  else
    spec_l1Read.l0 x0 0 0 := (runJ_eq _ _ _ _ _ _).trans (by kernel_rfl)
theorem spec_l1Read.l0.eq (x0 : List UInt8) (x3 : Int) (x4 : Int) : spec_l1Read.l0 x0 x3 x4 =
  if (decide (x4 < (x0.length : Int))) = true then
    (rdI x0 x4).bind fun y3 =>
    if (decide ((y3.toNat : Int) < 48)) = true then
      some (-1)
    else
      (rdI x0 x4).bind fun y6 =>
      if (if false = true then true else (decide ((y6.toNat : Int) > 57))) = true then
        some (-1)
      else
        (rdI x0 x4).bind fun y11 =>
        spec_l1Read.l0 x0 (IntKind.i64.wrap ((IntKind.i64.wrap (10 * x3)) + (IntKind.i64.wrap (IntKind.u8.wrap ((y11.toNat : Int) - 48))))) (IntKind.i64.wrap (x4 + 1))
  else
    some x3 := (runAt_loop _ _ _ _ _ _).trans (by kernel_rfl)
noncomputable def spec_ParseBorn.g : Gam := [(104, spec_l1Split.sp), (105, spec_l1Read.sp), (91, spec_roBorn.sp), (100, spec_roText.sp)]
theorem spec_ParseBorn.gok : GOkI Tryz.prog I spec_ParseBorn.g := ((((GOkI.nil _ _).cons spec_roText.ok).cons spec_roBorn.ok).cons spec_l1Read.ok).cons spec_l1Split.ok
noncomputable def spec_ParseBorn.i : FI := ⟨Tryz.f33, body Tryz.f33, (.seq .nil (.seq (.seq .nil (.cond (.seq .nil .nil) .nil)) (.seq .nil (.seq (.seq .nil (.blk (.loop [0, 4, 11, 12, 13] [] (.seq .nil (.seq (.cond .nil .nil) (.seq (.blk (.seq .nil .nil)) .nil)))))) (.seq (.seq .nil (.cond (.seq .nil .nil) .nil)) (.seq .nil .nil)))))), [], [], [.res (.tmp 2) (.own 3 (.int .i64)), .res (.tmp 3) (.v .bool)]⟩
noncomputable def spec_ParseBorn.sp : CSpec := mkSpec spec_ParseBorn.g T spec_ParseBorn.i
theorem spec_ParseBorn.ok : SpecOk Tryz.prog I 33 spec_ParseBorn.sp := mkSpec_ok hmix hI spec_ParseBorn.gok tok spec_ParseBorn.i Tryz.func33 (by kernel_rfl) (by kernel_rfl) (by kernel_rfl) (by kernel_rfl)
noncomputable def spec_ParseBorn.f (x0 : List UInt8) : Option ((List Int) × Bool) := run spec_ParseBorn.g T spec_ParseBorn.i [.v .str x0]
noncomputable def spec_ParseBorn.l0 (x0 : List UInt8) (x4 : List Int) (x11 : List (List UInt8)) (x12 : Int) (x13 : Int) : Option ((List Int) × Bool) := runAt spec_ParseBorn.g T spec_ParseBorn.i [true, true, true, false, true, false] [(0, .val .str x0), (4, .own 3 (.int .i64) x4), (11, .own 9 .str x11), (12, .val (.int .i64) x12), (13, .val (.int .i64) x13)] []
theorem spec_ParseBorn.f.eq (x0 : List UInt8) : spec_ParseBorn.f x0 =
  if (decide ((x0.length : Int) > 50)) = true then
    some ([], false)
  else
    (spec_l1Split.f x0 44).bind fun y3 =>
    spec_ParseBorn.l0 x0 [] y3 (y3.length : Int) 0 := by kernel_rfl
theorem spec_ParseBorn.l0.eq (x0 : List UInt8) (x4 : List Int) (x11 : List (List UInt8)) (x12 : Int) (x13 : Int) : spec_ParseBorn.l0 x0 x4 x11 x12 x13 =
  if (decide (x13 < x12)) = true then
    (rdI x11 x13).bind fun y2 =>
    (spec_l1Read.f y2).bind fun y3 =>
    (catI (appMax 8) x4 [y3]).bind fun y4 =>
    spec_ParseBorn.l0 x0 y4 x11 x12 (IntKind.i64.wrap (x13 + 1))
  else
    (spec_roBorn.f x4).bind fun y6 =>
    if (!y6) = true then
      some ([], false)
    else
      (spec_roText.f x4).bind fun y7 =>
      if (if false = true then true else (!(y7 == x0))) = true then
        some ([], false)
      else
        some (x4, true) := (runAt_loop _ _ _ _ _ _).trans (by kernel_rfl)
noncomputable def impl_JubileesIn.g : Gam := [(34, impl_AreBirths.sp), (80, impl_isYear.sp), (74, impl_isEvery.sp), (93, impl_jubilees.sp)]
theorem impl_JubileesIn.gok : GOkI Tryz.prog I impl_JubileesIn.g := ((((GOkI.nil _ _).cons impl_jubilees.ok).cons impl_isEvery.ok).cons impl_isYear.ok).cons impl_AreBirths.ok
noncomputable def impl_JubileesIn.i : FI := ⟨Tryz.f35, body Tryz.f35, (.seq .nil (.seq (.seq .nil (.cond (.seq .nil .nil) .nil)) (.seq .nil .nil))), [], [], [.res (.tmp 6) (.own 3 (.int .i64)), .res (.tmp 7) (.v .bool)]⟩
noncomputable def impl_JubileesIn.sp : CSpec := mkSpec impl_JubileesIn.g T impl_JubileesIn.i
theorem impl_JubileesIn.ok : SpecOk Tryz.prog I 35 impl_JubileesIn.sp := mkSpec_ok hmix hI impl_JubileesIn.gok tok impl_JubileesIn.i Tryz.func35 (by kernel_rfl) (by kernel_rfl) (by kernel_rfl) (by kernel_rfl)
noncomputable def impl_JubileesIn.f (x0 : List Int) (x1 : Int) (x2 : Int) : Option ((List Int) × Bool) := run impl_JubileesIn.g T impl_JubileesIn.i [.v (.slice (.int .i64)) x0, .v (.int .i64) x1, .v (.int .i64) x2]
theorem impl_JubileesIn.f.eq (x0 : List Int) (x1 : Int) (x2 : Int) : impl_JubileesIn.f x0 x1 x2 =
  (impl_AreBirths.f x0).bind fun y1 =>
  if (!y1) = true then
    some ([], false)
  else
    (impl_isYear.f x1).bind fun y2 =>
    if (if false = true then true else !y2) = true then
      some ([], false)
    else
      (impl_isEvery.f x2).bind fun y4 =>
      if (if false = true then true else !y4) = true then
        some ([], false)
      else
        (impl_jubilees.f x0 x1 x2).bind fun y6 =>
        some (y6, true) := by kernel_rfl
noncomputable def laws_FnJubileesSummed.g : Gam := [(5, laws_big.sp), (6, spec_DrawRoundSums.sp), (7, impl_RoundSums.sp), (8, spec_RoundSums.sp), (10, laws_qRises.sp), (11, impl_SumOfAges.sp), (12, laws_qHas.sp), (13, spec_DrawSumOfAges.sp), (14, spec_SumOfAges.sp), (15, impl_SharedEvery.sp), (16, spec_SharedEvery.sp), (17, spec_DrawYearOfSum.sp), (18, impl_YearOfSum.sp), (19, spec_YearOfSum.sp), (20, spec_DrawBestEvery.sp), (21, impl_BestEvery.sp), (22, spec_BestEvery.sp), (23, spec_DrawDoubleYear.sp), (24, impl_DoubleYear.sp), (25, spec_DoubleYear.sp), (26, spec_DrawJoinBorn.sp), (27, impl_JoinBorn.sp), (28, spec_JoinBorn.sp), (29, impl_BornText.sp), (30, spec_BornText.sp), (31, spec_DrawParseBorn.sp), (32, impl_ParseBorn.sp), (33, spec_ParseBorn.sp), (35, impl_JubileesIn.sp), (9, laws_qSame.sp), (34, impl_AreBirths.sp)]
theorem laws_FnJubileesSummed.gok : GOkI Tryz.prog I laws_FnJubileesSummed.g := (((((((((((((((((((((((((((((((GOkI.nil _ _).cons impl_AreBirths.ok).cons laws_qSame.ok).cons impl_JubileesIn.ok).cons spec_ParseBorn.ok).cons impl_ParseBorn.ok).cons spec_DrawParseBorn.ok).cons spec_BornText.ok).cons impl_BornText.ok).cons spec_JoinBorn.ok).cons impl_JoinBorn.ok).cons spec_DrawJoinBorn.ok).cons spec_DoubleYear.ok).cons impl_DoubleYear.ok).cons spec_DrawDoubleYear.ok).cons spec_BestEvery.ok).cons impl_BestEvery.ok).cons spec_DrawBestEvery.ok).cons spec_YearOfSum.ok).cons impl_YearOfSum.ok).cons spec_DrawYearOfSum.ok).cons spec_SharedEvery.ok).cons impl_SharedEvery.ok).cons spec_SumOfAges.ok).cons spec_DrawSumOfAges.ok).cons laws_qHas.ok).cons impl_SumOfAges.ok).cons laws_qRises.ok).cons spec_RoundSums.ok).cons impl_RoundSums.ok).cons spec_DrawRoundSums.ok).cons laws_big.ok
noncomputable def laws_FnJubileesSummed.i : FI := ⟨Tryz.f3, body Tryz.f3, (.seq .nil (.seq (.seq .nil (.cond (.seq .nil .nil) .nil)) (.seq .nil (.seq .nil (.seq .nil (.seq (.cut [1, 5, 6, 7, 8, 9, 10, 120] [] .nil (.cond (.seq .nil .nil) .nil)) (.cut [1] [] (.seq .nil (.cond (.seq (.seq .nil (.cond (.seq .nil .nil) .nil)) (.seq .nil (.blk (.loop [1, 5, 7, 8, 9, 13] [] (.seq (.seq .nil (.cond .nil .nil)) (.seq (.blk (.cut [1, 5, 7, 8, 9, 13, 14, 15] [] .nil (.seq .nil (.cond (.seq .nil .nil) .nil)))) .nil)))))) .nil)) (.seq .nil (.seq .nil (.seq .nil (.seq .nil (.cut [1, 16, 17, 18, 19, 20, 21, 22, 23, 24, 25] [] .nil (.seq .nil (.seq .nil (.seq .nil (.seq .nil (.seq .nil (.seq .nil (.seq .nil (.seq .nil (.seq .nil (.cut [1, 16, 17, 18, 19, 20, 21, 22, 23, 24, 25, 26, 27, 28, 29, 30, 31, 32, 33, 34, 35, 36, 37, 38, 39, 40, 41, 42, 43, 44, 45, 46, 47, 48, 49] [] .nil (.seq .nil (.seq .nil (.seq .nil (.seq .nil (.seq .nil (.seq .nil (.cut [16, 17, 18, 19, 20, 21, 22, 23, 24, 25, 26, 27, 28, 29, 30, 31, 32, 33, 34, 35, 36, 37, 38, 39, 40, 41, 42, 43, 44, 45, 46, 47, 48, 49, 50, 51, 52, 53, 54, 55, 56, 57, 58, 59, 60, 61, 62] [] .nil (.seq (.cut [16, 17, 18, 19, 22, 23, 26, 27, 28, 29, 32, 33, 34, 35, 36, 37, 41, 42, 43, 44, 45, 48, 49, 50, 51, 54, 55, 58, 59, 60, 377] [] .nil (.cond (.seq .nil .nil) .nil)) (.cut [16, 17, 18, 22, 23, 26, 27, 28, 29, 32, 33, 34, 35, 36, 37, 41, 42, 43, 44, 45, 48, 49, 50, 51, 54, 55, 58, 59, 60] [] (.seq .nil (.cond (.seq .nil (.seq .nil (.seq (.seq .nil (.blk (.loop [16, 17, 18, 22, 23, 26, 27, 28, 29, 32, 33, 34, 35, 36, 37, 41, 42, 43, 44, 45, 48, 49, 50, 51, 54, 55, 58, 59, 60, 63, 64, 379, 380, 381] [] (.seq .nil (.seq (.cond .nil .nil) (.seq (.blk (.seq .nil (.seq .nil (.seq .nil (.cond .nil .nil))))) .nil)))))) (.seq .nil (.cond (.seq .nil .nil) .nil))))) .nil)) (.cut [16, 26, 27, 28, 29, 32, 33, 34, 35, 36, 37, 41, 42, 43, 44, 45, 48, 49, 50, 51, 54, 55, 58, 59, 60] [] (.seq .nil (.cond (.seq (.cut [16, 17, 22, 26, 27, 28, 29, 32, 33, 34, 35, 36, 37, 41, 42, 43, 44, 45, 48, 49, 50, 51, 54, 55, 58, 59, 60, 418] [] .nil (.cond (.seq .nil .nil) .nil)) (.seq (.seq .nil (.blk (.loop [16, 17, 22, 26, 27, 28, 29, 32, 33, 34, 35, 36, 37, 41, 42, 43, 44, 45, 48, 49, 50, 51, 54, 55, 58, 59, 60, 419, 420, 421] [] (.seq .nil (.seq (.cond .nil .nil) (.seq (.blk (.seq .nil (.seq .nil (.cond (.seq .nil .nil) .nil)))) .nil)))))) (.seq .nil (.cond (.seq .nil (.seq .nil (.cut [16, 26, 27, 28, 29, 32, 33, 34, 35, 36, 37, 41, 42, 43, 44, 45, 48, 49, 50, 51, 54, 55, 58, 59, 60, 70, 71, 72] [] (.seq .nil (.blk (.loop [16, 17, 26, 27, 28, 29, 32, 33, 34, 35, 36, 37, 41, 42, 43, 44, 45, 48, 49, 50, 51, 54, 55, 58, 59, 60, 70, 71, 72, 441, 442, 443] [] (.seq .nil (.seq (.cond .nil .nil) (.seq (.blk (.seq .nil (.seq .nil (.cond .nil .nil)))) .nil)))))) (.seq .nil (.cond (.seq .nil .nil) .nil))))) .nil)))) .nil)) (.cut [16, 32, 33, 34, 35, 36, 37, 41, 42, 43, 44, 45, 48, 49, 50, 51, 54, 55, 58, 59, 60] [] (.seq .nil (.cond (.seq .nil (.seq (.cut [16, 26, 27, 28, 32, 33, 34, 35, 36, 37, 41, 42, 43, 44, 45, 48, 49, 50, 51, 54, 55, 58, 59, 60, 477] [] .nil (.cond (.seq .nil .nil) .nil)) (.seq .nil (.cond (.seq .nil (.seq .nil (.cond (.seq .nil .nil) .nil))) .nil)))) .nil)) (.cut [16, 41, 42, 43, 44, 45, 48, 49, 50, 51, 54, 55, 58, 59, 60] [] (.seq .nil (.cond (.seq (.seq .nil (.blk (.loop [16, 32, 33, 34, 35, 36, 41, 42, 43, 44, 45, 48, 49, 50, 51, 54, 55, 58, 59, 60, 79] [] (.seq (.seq .nil (.cond .nil .nil)) (.seq (.blk (.cut [16, 32, 33, 34, 35, 36, 41, 42, 43, 44, 45, 48, 49, 50, 51, 54, 55, 58, 59, 60, 79, 80, 81] [] .nil (.seq .nil (.cond (.seq .nil .nil) .nil)))) .nil))))) (.seq .nil (.cond (.seq .nil .nil) .nil))) .nil)) (.seq (.cut [16, 48, 49, 50, 51, 54, 55, 58, 59, 60, 577] [] .nil (.cond (.seq .nil .nil) .nil)) (.seq (.cut [16, 54, 55, 58, 59, 60, 606] [] .nil (.cond (.seq .nil .nil) .nil)) (.seq (.seq .nil (.cond (.seq .nil (.cut [58, 59, 60, 620] [] .nil (.cond (.seq .nil .nil) .nil))) .nil)) (.seq (.seq .nil (.cond (.seq .nil (.seq .nil .nil)) .nil)) (.seq .nil .nil))))))))))))))))))))))))))))))))))))))), [], [], [.res (.tmp 4) (.v .bool)]⟩
noncomputable def laws_FnJubileesSummed.sp : CSpec := mkSpec laws_FnJubileesSummed.g T laws_FnJubileesSummed.i
theorem laws_FnJubileesSummed.ok : SpecOk Tryz.prog I 3 laws_FnJubileesSummed.sp := mkSpec_ok hmix hI laws_FnJubileesSummed.gok tok laws_FnJubileesSummed.i Tryz.func3 (by kernel_rfl) (by kernel_rfl) (by kernel_rfl) (by kernel_rfl)
noncomputable def laws_FnJubileesSummed.f (x0 : List Int) (x1 : List Int) : Option (Bool) := run laws_FnJubileesSummed.g T laws_FnJubileesSummed.i [.v (.slice (.int .u8)) x0, .v (.slice (.int .u8)) x1]
noncomputable def laws_FnJubileesSummed.j0 (x1 : List Int) (x5 : List Int) (x6 : Int) (x7 : Int) (x8 : Int) (x9 : List Int) (x10 : Bool) (x120 : Bool) : Option (Bool) := runJ laws_FnJubileesSummed.g T laws_FnJubileesSummed.i [true, true, true, true, true, false, true] [(1, .val (.slice (.int .u8)) x1), (5, .own 3 (.int .i64) x5), (6, .val (.int .i64) x6), (7, .val (.int .i64) x7), (8, .val (.int .i64) x8), (9, .own 3 (.int .i64) x9), (10, .val .bool x10), (120, .val .bool x120)] []
noncomputable def laws_FnJubileesSummed.l0 (x1 : List Int) (x5 : List Int) (x7 : Int) (x8 : Int) (x9 : List Int) (x13 : Int) : Option (Bool) := runAt laws_FnJubileesSummed.g T laws_FnJubileesSummed.i [true, true, true, true, true, true, false, true, false, true, true, false] [(1, .val (.slice (.int .u8)) x1), (5, .own 3 (.int .i64) x5), (7, .val (.int .i64) x7), (8, .val (.int .i64) x8), (9, .own 3 (.int .i64) x9), (13, .val (.int .i64) x13)] []
noncomputable def laws_FnJubileesSummed.j1 (x1 : List Int) (x5 : List Int) (x7 : Int) (x8 : Int) (x9 : List Int) (x13 : Int) (x14 : Int) (x15 : Bool) : Option (Bool) := runJ laws_FnJubileesSummed.g T laws_FnJubileesSummed.i [true, true, true, true, true, true, false, true, false, true, true, false, false, true, false, false, true] [(1, .val (.slice (.int .u8)) x1), (5, .own 3 (.int .i64) x5), (7, .val (.int .i64) x7), (8, .val (.int .i64) x8), (9, .own 3 (.int .i64) x9), (13, .val (.int .i64) x13), (14, .val (.int .i64) x14), (15, .val .bool x15)] []
noncomputable def laws_FnJubileesSummed.j2 (x1 : List Int) : Option (Bool) := runJ laws_FnJubileesSummed.g T laws_FnJubileesSummed.i [true, true, true, true, true, true, true] [(1, .val (.slice (.int .u8)) x1)] []
noncomputable def laws_FnJubileesSummed.j3 (x1 : List Int) (x16 : List Int) (x17 : Int) (x18 : Int) (x19 : Bool) (x20 : Int) (x21 : Bool) (x22 : Int) (x23 : Bool) (x24 : Int) (x25 : Bool) : Option (Bool) := runJ laws_FnJubileesSummed.g T laws_FnJubileesSummed.i [true, true, true, true, true, true, true, true, true, true, true, true] [(1, .val (.slice (.int .u8)) x1), (16, .own 3 (.int .i64) x16), (17, .val (.int .i64) x17), (18, .val (.int .i64) x18), (19, .val .bool x19), (20, .val (.int .i64) x20), (21, .val .bool x21), (22, .val (.int .i64) x22), (23, .val .bool x23), (24, .val (.int .i64) x24), (25, .val .bool x25)] []
noncomputable def laws_FnJubileesSummed.j4 (x1 : List Int) (x16 : List Int) (x17 : Int) (x18 : Int) (x19 : Bool) (x20 : Int) (x21 : Bool) (x22 : Int) (x23 : Bool) (x24 : Int) (x25 : Bool) (x26 : List Int) (x27 : Int) (x28 : Int) (x29 : Bool) (x30 : Int) (x31 : Bool) (x32 : List Int) (x33 : Int) (x34 : Int) (x35 : Int) (x36 : Int) (x37 : Bool) (x38 : Int) (x39 : Int) (x40 : Bool) (x41 : List Int) (x42 : Int) (x43 : Int) (x44 : Int) (x45 : Bool) (x46 : Int) (x47 : Bool) (x48 : List Int) (x49 : List Int) : Option (Bool) := runJ laws_FnJubileesSummed.g T laws_FnJubileesSummed.i [true, true, true, true, true, true, true, true, true, true, true, true, true, true, true, true, true, true, true, true, true, true] [(1, .val (.slice (.int .u8)) x1), (16, .own 3 (.int .i64) x16), (17, .val (.int .i64) x17), (18, .val (.int .i64) x18), (19, .val .bool x19), (20, .val (.int .i64) x20), (21, .val .bool x21), (22, .val (.int .i64) x22), (23, .val .bool x23), (24, .val (.int .i64) x24), (25, .val .bool x25), (26, .own 3 (.int .i64) x26), (27, .val (.int .i64) x27), (28, .val (.int .i64) x28), (29, .val .bool x29), (30, .val (.int .i64) x30), (31, .val .bool x31), (32, .own 3 (.int .i64) x32), (33, .val (.int .i64) x33), (34, .val (.int .i64) x34), (35, .val (.int .i64) x35), (36, .val (.int .i64) x36), (37, .val .bool x37), (38, .val (.int .i64) x38), (39, .val (.int .i64) x39), (40, .val .bool x40), (41, .own 3 (.int .i64) x41), (42, .val (.int .i64) x42), (43, .val (.int .i64) x43), (44, .val (.int .i64) x44), (45, .val .bool x45), (46, .val (.int .i64) x46), (47, .val .bool x47), (48, .own 3 (.int .i64) x48), (49, .own 3 (.int .i64) x49)] []
noncomputable def laws_FnJubileesSummed.j5 (x16 : List Int) (x17 : Int) (x18 : Int) (x19 : Bool) (x20 : Int) (x21 : Bool) (x22 : Int) (x23 : Bool) (x24 : Int) (x25 : Bool) (x26 : List Int) (x27 : Int) (x28 : Int) (x29 : Bool) (x30 : Int) (x31 : Bool) (x32 : List Int) (x33 : Int) (x34 : Int) (x35 : Int) (x36 : Int) (x37 : Bool) (x38 : Int) (x39 : Int) (x40 : Bool) (x41 : List Int) (x42 : Int) (x43 : Int) (x44 : Int) (x45 : Bool) (x46 : Int) (x47 : Bool) (x48 : List Int) (x49 : List Int) (x50 : List Int) (x51 : Bool) (x52 : List Int) (x53 : Bool) (x54 : List UInt8) (x55 : Bool) (x56 : List UInt8) (x57 : Bool) (x58 : List UInt8) (x59 : List Int) (x60 : Bool) (x61 : List Int) (x62 : Bool) : Option (Bool) := runJ laws_FnJubileesSummed.g T laws_FnJubileesSummed.i [true, true, true, true, true, true, true, true, true, true, true, true, true, true, true, true, true, true, true, true, true, true, true, true, true, true, true, true, true] [(16, .own 3 (.int .i64) x16), (17, .val (.int .i64) x17), (18, .val (.int .i64) x18), (19, .val .bool x19), (20, .val (.int .i64) x20), (21, .val .bool x21), (22, .val (.int .i64) x22), (23, .val .bool x23), (24, .val (.int .i64) x24), (25, .val .bool x25), (26, .own 3 (.int .i64) x26), (27, .val (.int .i64) x27), (28, .val (.int .i64) x28), (29, .val .bool x29), (30, .val (.int .i64) x30), (31, .val .bool x31), (32, .own 3 (.int .i64) x32), (33, .val (.int .i64) x33), (34, .val (.int .i64) x34), (35, .val (.int .i64) x35), (36, .val (.int .i64) x36), (37, .val .bool x37), (38, .val (.int .i64) x38), (39, .val (.int .i64) x39), (40, .val .bool x40), (41, .own 3 (.int .i64) x41), (42, .val (.int .i64) x42), (43, .val (.int .i64) x43), (44, .val (.int .i64) x44), (45, .val .bool x45), (46, .val (.int .i64) x46), (47, .val .bool x47), (48, .val (.slice (.int .i64)) x48), (49, .val (.slice (.int .i64)) x49), (50, .val (.slice (.int .i64)) x50), (51, .val .bool x51), (52, .own 3 (.int .i64) x52), (53, .val .bool x53), (54, .val .str x54), (55, .val .bool x55), (56, .val .str x56), (57, .val .bool x57), (58, .val .str x58), (59, .val (.slice (.int .i64)) x59), (60, .val .bool x60), (61, .own 3 (.int .i64) x61), (62, .val .bool x62)] []
noncomputable def laws_FnJubileesSummed.j6 (x16 : List Int) (x17 : Int) (x18 : Int) (x19 : Bool) (x22 : Int) (x23 : Bool) (x26 : List Int) (x27 : Int) (x28 : Int) (x29 : Bool) (x32 : List Int) (x33 : Int) (x34 : Int) (x35 : Int) (x36 : Int) (x37 : Bool) (x41 : List Int) (x42 : Int) (x43 : Int) (x44 : Int) (x45 : Bool) (x48 : List Int) (x49 : List Int) (x50 : List Int) (x51 : Bool) (x54 : List UInt8) (x55 : Bool) (x58 : List UInt8) (x59 : List Int) (x60 : Bool) (x377 : Bool) : Option (Bool) := runJ laws_FnJubileesSummed.g T laws_FnJubileesSummed.i [true, true, true, true, true, true, true, true, true, true, true, true, true, true, true, true, true, true, true, true, true, true, true, true, true, true, true, true, true, false, true] [(16, .own 3 (.int .i64) x16), (17, .val (.int .i64) x17), (18, .val (.int .i64) x18), (19, .val .bool x19), (22, .val (.int .i64) x22), (23, .val .bool x23), (26, .own 3 (.int .i64) x26), (27, .val (.int .i64) x27), (28, .val (.int .i64) x28), (29, .val .bool x29), (32, .own 3 (.int .i64) x32), (33, .val (.int .i64) x33), (34, .val (.int .i64) x34), (35, .val (.int .i64) x35), (36, .val (.int .i64) x36), (37, .val .bool x37), (41, .own 3 (.int .i64) x41), (42, .val (.int .i64) x42), (43, .val (.int .i64) x43), (44, .val (.int .i64) x44), (45, .val .bool x45), (48, .val (.slice (.int .i64)) x48), (49, .val (.slice (.int .i64)) x49), (50, .val (.slice (.int .i64)) x50), (51, .val .bool x51), (54, .val .str x54), (55, .val .bool x55), (58, .val .str x58), (59, .val (.slice (.int .i64)) x59), (60, .val .bool x60), (377, .val .bool x377)] []
noncomputable def laws_FnJubileesSummed.l1 (x16 : List Int) (x17 : Int) (x18 : Int) (x22 : Int) (x23 : Bool) (x26 : List Int) (x27 : Int) (x28 : Int) (x29 : Bool) (x32 : List Int) (x33 : Int) (x34 : Int) (x35 : Int) (x36 : Int) (x37 : Bool) (x41 : List Int) (x42 : Int) (x43 : Int) (x44 : Int) (x45 : Bool) (x48 : List Int) (x49 : List Int) (x50 : List Int) (x51 : Bool) (x54 : List UInt8) (x55 : Bool) (x58 : List UInt8) (x59 : List Int) (x60 : Bool) (x63 : Int) (x64 : Bool) (x380 : Int) (x381 : Int) : Option (Bool) := runAt laws_FnJubileesSummed.g T laws_FnJubileesSummed.i [true, true, true, true, true, true, true, true, true, true, true, true, true, true, true, true, true, true, true, true, true, true, true, true, true, true, true, true, true, true, false, true, false, true, true, false, true, false] [(16, .own 3 (.int .i64) x16), (17, .val (.int .i64) x17), (18, .val (.int .i64) x18), (22, .val (.int .i64) x22), (23, .val .bool x23), (26, .own 3 (.int .i64) x26), (27, .val (.int .i64) x27), (28, .val (.int .i64) x28), (29, .val .bool x29), (32, .own 3 (.int .i64) x32), (33, .val (.int .i64) x33), (34, .val (.int .i64) x34), (35, .val (.int .i64) x35), (36, .val (.int .i64) x36), (37, .val .bool x37), (41, .own 3 (.int .i64) x41), (42, .val (.int .i64) x42), (43, .val (.int .i64) x43), (44, .val (.int .i64) x44), (45, .val .bool x45), (48, .val (.slice (.int .i64)) x48), (49, .val (.slice (.int .i64)) x49), (50, .val (.slice (.int .i64)) x50), (51, .val .bool x51), (54, .val .str x54), (55, .val .bool x55), (58, .val .str x58), (59, .val (.slice (.int .i64)) x59), (60, .val .bool x60), (63, .val (.int .i64) x63), (64, .val .bool x64), (379, .alias 16), (380, .val (.int .i64) x380), (381, .val (.int .i64) x381)] []
noncomputable def laws_FnJubileesSummed.j7 (x16 : List Int) (x17 : Int) (x18 : Int) (x22 : Int) (x23 : Bool) (x26 : List Int) (x27 : Int) (x28 : Int) (x29 : Bool) (x32 : List Int) (x33 : Int) (x34 : Int) (x35 : Int) (x36 : Int) (x37 : Bool) (x41 : List Int) (x42 : Int) (x43 : Int) (x44 : Int) (x45 : Bool) (x48 : List Int) (x49 : List Int) (x50 : List Int) (x51 : Bool) (x54 : List UInt8) (x55 : Bool) (x58 : List UInt8) (x59 : List Int) (x60 : Bool) : Option (Bool) := runJ laws_FnJubileesSummed.g T laws_FnJubileesSummed.i [true, true, true, true, true, true, true, true, true, true, true, true, true, true, true, true, true, true, true, true, true, true, true, true, true, true, true, true, true, true, true] [(16, .own 3 (.int .i64) x16), (17, .val (.int .i64) x17), (18, .val (.int .i64) x18), (22, .val (.int .i64) x22), (23, .val .bool x23), (26, .own 3 (.int .i64) x26), (27, .val (.int .i64) x27), (28, .val (.int .i64) x28), (29, .val .bool x29), (32, .own 3 (.int .i64) x32), (33, .val (.int .i64) x33), (34, .val (.int .i64) x34), (35, .val (.int .i64) x35), (36, .val (.int .i64) x36), (37, .val .bool x37), (41, .own 3 (.int .i64) x41), (42, .val (.int .i64) x42), (43, .val (.int .i64) x43), (44, .val (.int .i64) x44), (45, .val .bool x45), (48, .val (.slice (.int .i64)) x48), (49, .val (.slice (.int .i64)) x49), (50, .val (.slice (.int .i64)) x50), (51, .val .bool x51), (54, .val .str x54), (55, .val .bool x55), (58, .val .str x58), (59, .val (.slice (.int .i64)) x59), (60, .val .bool x60)] []
noncomputable def laws_FnJubileesSummed.j8 (x16 : List Int) (x17 : Int) (x22 : Int) (x26 : List Int) (x27 : Int) (x28 : Int) (x29 : Bool) (x32 : List Int) (x33 : Int) (x34 : Int) (x35 : Int) (x36 : Int) (x37 : Bool) (x41 : List Int) (x42 : Int) (x43 : Int) (x44 : Int) (x45 : Bool) (x48 : List Int) (x49 : List Int) (x50 : List Int) (x51 : Bool) (x54 : List UInt8) (x55 : Bool) (x58 : List UInt8) (x59 : List Int) (x60 : Bool) (x418 : Bool) : Option (Bool) := runJ laws_FnJubileesSummed.g T laws_FnJubileesSummed.i [true, true, true, true, true, true, true, true, true, true, true, true, true, true, true, true, true, true, true, true, true, true, true, true, true, true, true, true, true, true, true, false, true, false, false, true] [(16, .own 3 (.int .i64) x16), (17, .val (.int .i64) x17), (22, .val (.int .i64) x22), (26, .own 3 (.int .i64) x26), (27, .val (.int .i64) x27), (28, .val (.int .i64) x28), (29, .val .bool x29), (32, .own 3 (.int .i64) x32), (33, .val (.int .i64) x33), (34, .val (.int .i64) x34), (35, .val (.int .i64) x35), (36, .val (.int .i64) x36), (37, .val .bool x37), (41, .own 3 (.int .i64) x41), (42, .val (.int .i64) x42), (43, .val (.int .i64) x43), (44, .val (.int .i64) x44), (45, .val .bool x45), (48, .val (.slice (.int .i64)) x48), (49, .val (.slice (.int .i64)) x49), (50, .val (.slice (.int .i64)) x50), (51, .val .bool x51), (54, .val .str x54), (55, .val .bool x55), (58, .val .str x58), (59, .val (.slice (.int .i64)) x59), (60, .val .bool x60), (418, .val .bool x418)] []
noncomputable def laws_FnJubileesSummed.l2 (x16 : List Int) (x17 : Int) (x22 : Int) (x26 : List Int) (x27 : Int) (x28 : Int) (x29 : Bool) (x32 : List Int) (x33 : Int) (x34 : Int) (x35 : Int) (x36 : Int) (x37 : Bool) (x41 : List Int) (x42 : Int) (x43 : Int) (x44 : Int) (x45 : Bool) (x48 : List Int) (x49 : List Int) (x50 : List Int) (x51 : Bool) (x54 : List UInt8) (x55 : Bool) (x58 : List UInt8) (x59 : List Int) (x60 : Bool) (x420 : Int) (x421 : Int) : Option (Bool) := runAt laws_FnJubileesSummed.g T laws_FnJubileesSummed.i [true, true, true, true, true, true, true, true, true, true, true, true, true, true, true, true, true, true, true, true, true, true, true, true, true, true, true, true, true, true, true, false, true, false, true, false, true, false] [(16, .own 3 (.int .i64) x16), (17, .val (.int .i64) x17), (22, .val (.int .i64) x22), (26, .own 3 (.int .i64) x26), (27, .val (.int .i64) x27), (28, .val (.int .i64) x28), (29, .val .bool x29), (32, .own 3 (.int .i64) x32), (33, .val (.int .i64) x33), (34, .val (.int .i64) x34), (35, .val (.int .i64) x35), (36, .val (.int .i64) x36), (37, .val .bool x37), (41, .own 3 (.int .i64) x41), (42, .val (.int .i64) x42), (43, .val (.int .i64) x43), (44, .val (.int .i64) x44), (45, .val .bool x45), (48, .val (.slice (.int .i64)) x48), (49, .val (.slice (.int .i64)) x49), (50, .val (.slice (.int .i64)) x50), (51, .val .bool x51), (54, .val .str x54), (55, .val .bool x55), (58, .val .str x58), (59, .val (.slice (.int .i64)) x59), (60, .val .bool x60), (419, .alias 16), (420, .val (.int .i64) x420), (421, .val (.int .i64) x421)] []
noncomputable def laws_FnJubileesSummed.l3 (x16 : List Int) (x17 : Int) (x26 : List Int) (x27 : Int) (x28 : Int) (x29 : Bool) (x32 : List Int) (x33 : Int) (x34 : Int) (x35 : Int) (x36 : Int) (x37 : Bool) (x41 : List Int) (x42 : Int) (x43 : Int) (x44 : Int) (x45 : Bool) (x48 : List Int) (x49 : List Int) (x50 : List Int) (x51 : Bool) (x54 : List UInt8) (x55 : Bool) (x58 : List UInt8) (x59 : List Int) (x60 : Bool) (x70 : List Int) (x71 : Bool) (x72 : Int) (x442 : Int) (x443 : Int) : Option (Bool) := runAt laws_FnJubileesSummed.g T laws_FnJubileesSummed.i [true, true, true, true, true, true, true, true, true, true, true, true, true, true, true, true, true, true, true, true, true, true, true, true, true, true, true, true, true, true, true, false, true, false, true, true, true, false, true, true, false, true, false] [(16, .own 3 (.int .i64) x16), (17, .val (.int .i64) x17), (26, .own 3 (.int .i64) x26), (27, .val (.int .i64) x27), (28, .val (.int .i64) x28), (29, .val .bool x29), (32, .own 3 (.int .i64) x32), (33, .val (.int .i64) x33), (34, .val (.int .i64) x34), (35, .val (.int .i64) x35), (36, .val (.int .i64) x36), (37, .val .bool x37), (41, .own 3 (.int .i64) x41), (42, .val (.int .i64) x42), (43, .val (.int .i64) x43), (44, .val (.int .i64) x44), (45, .val .bool x45), (48, .val (.slice (.int .i64)) x48), (49, .val (.slice (.int .i64)) x49), (50, .val (.slice (.int .i64)) x50), (51, .val .bool x51), (54, .val .str x54), (55, .val .bool x55), (58, .val .str x58), (59, .val (.slice (.int .i64)) x59), (60, .val .bool x60), (70, .own 3 (.int .i64) x70), (71, .val .bool x71), (72, .val (.int .i64) x72), (441, .alias 16), (442, .val (.int .i64) x442), (443, .val (.int .i64) x443)] []
noncomputable def laws_FnJubileesSummed.j9 (x16 : List Int) (x26 : List Int) (x27 : Int) (x28 : Int) (x29 : Bool) (x32 : List Int) (x33 : Int) (x34 : Int) (x35 : Int) (x36 : Int) (x37 : Bool) (x41 : List Int) (x42 : Int) (x43 : Int) (x44 : Int) (x45 : Bool) (x48 : List Int) (x49 : List Int) (x50 : List Int) (x51 : Bool) (x54 : List UInt8) (x55 : Bool) (x58 : List UInt8) (x59 : List Int) (x60 : Bool) (x70 : List Int) (x71 : Bool) (x72 : Int) : Option (Bool) := runJ laws_FnJubileesSummed.g T laws_FnJubileesSummed.i [true, true, true, true, true, true, true, true, true, true, true, true, true, true, true, true, true, true, true, true, true, true, true, true, true, true, true, true, true, true, true, false, true, false, true, true, true, false, true, true, true] [(16, .own 3 (.int .i64) x16), (26, .own 3 (.int .i64) x26), (27, .val (.int .i64) x27), (28, .val (.int .i64) x28), (29, .val .bool x29), (32, .own 3 (.int .i64) x32), (33, .val (.int .i64) x33), (34, .val (.int .i64) x34), (35, .val (.int .i64) x35), (36, .val (.int .i64) x36), (37, .val .bool x37), (41, .own 3 (.int .i64) x41), (42, .val (.int .i64) x42), (43, .val (.int .i64) x43), (44, .val (.int .i64) x44), (45, .val .bool x45), (48, .val (.slice (.int .i64)) x48), (49, .val (.slice (.int .i64)) x49), (50, .val (.slice (.int .i64)) x50), (51, .val .bool x51), (54, .val .str x54), (55, .val .bool x55), (58, .val .str x58), (59, .val (.slice (.int .i64)) x59), (60, .val .bool x60), (70, .own 3 (.int .i64) x70), (71, .val .bool x71), (72, .val (.int .i64) x72)] []
noncomputable def laws_FnJubileesSummed.j10 (x16 : List Int) (x26 : List Int) (x27 : Int) (x28 : Int) (x29 : Bool) (x32 : List Int) (x33 : Int) (x34 : Int) (x35 : Int) (x36 : Int) (x37 : Bool) (x41 : List Int) (x42 : Int) (x43 : Int) (x44 : Int) (x45 : Bool) (x48 : List Int) (x49 : List Int) (x50 : List Int) (x51 : Bool) (x54 : List UInt8) (x55 : Bool) (x58 : List UInt8) (x59 : List Int) (x60 : Bool) : Option (Bool) := runJ laws_FnJubileesSummed.g T laws_FnJubileesSummed.i [true, true, true, true, true, true, true, true, true, true, true, true, true, true, true, true, true, true, true, true, true, true, true, true, true, true, true, true, true, true, true, true] [(16, .own 3 (.int .i64) x16), (26, .own 3 (.int .i64) x26), (27, .val (.int .i64) x27), (28, .val (.int .i64) x28), (29, .val .bool x29), (32, .own 3 (.int .i64) x32), (33, .val (.int .i64) x33), (34, .val (.int .i64) x34), (35, .val (.int .i64) x35), (36, .val (.int .i64) x36), (37, .val .bool x37), (41, .own 3 (.int .i64) x41), (42, .val (.int .i64) x42), (43, .val (.int .i64) x43), (44, .val (.int .i64) x44), (45, .val .bool x45), (48, .val (.slice (.int .i64)) x48), (49, .val (.slice (.int .i64)) x49), (50, .val (.slice (.int .i64)) x50), (51, .val .bool x51), (54, .val .str x54), (55, .val .bool x55), (58, .val .str x58), (59, .val (.slice (.int .i64)) x59), (60, .val .bool x60)] []
noncomputable def laws_FnJubileesSummed.j11 (x16 : List Int) (x26 : List Int) (x27 : Int) (x28 : Int) (x32 : List Int) (x33 : Int) (x34 : Int) (x35 : Int) (x36 : Int) (x37 : Bool) (x41 : List Int) (x42 : Int) (x43 : Int) (x44 : Int) (x45 : Bool) (x48 : List Int) (x49 : List Int) (x50 : List Int) (x51 : Bool) (x54 : List UInt8) (x55 : Bool) (x58 : List UInt8) (x59 : List Int) (x60 : Bool) (x477 : Bool) : Option (Bool) := runJ laws_FnJubileesSummed.g T laws_FnJubileesSummed.i [true, true, true, true, true, true, true, true, true, true, true, true, true, true, true, true, true, true, true, true, true, true, true, true, true, true, true, true, true, true, true, true, false, true, false, true, false, true] [(16, .own 3 (.int .i64) x16), (26, .own 3 (.int .i64) x26), (27, .val (.int .i64) x27), (28, .val (.int .i64) x28), (32, .own 3 (.int .i64) x32), (33, .val (.int .i64) x33), (34, .val (.int .i64) x34), (35, .val (.int .i64) x35), (36, .val (.int .i64) x36), (37, .val .bool x37), (41, .own 3 (.int .i64) x41), (42, .val (.int .i64) x42), (43, .val (.int .i64) x43), (44, .val (.int .i64) x44), (45, .val .bool x45), (48, .val (.slice (.int .i64)) x48), (49, .val (.slice (.int .i64)) x49), (50, .val (.slice (.int .i64)) x50), (51, .val .bool x51), (54, .val .str x54), (55, .val .bool x55), (58, .val .str x58), (59, .val (.slice (.int .i64)) x59), (60, .val .bool x60), (477, .val .bool x477)] []
noncomputable def laws_FnJubileesSummed.j12 (x16 : List Int) (x32 : List Int) (x33 : Int) (x34 : Int) (x35 : Int) (x36 : Int) (x37 : Bool) (x41 : List Int) (x42 : Int) (x43 : Int) (x44 : Int) (x45 : Bool) (x48 : List Int) (x49 : List Int) (x50 : List Int) (x51 : Bool) (x54 : List UInt8) (x55 : Bool) (x58 : List UInt8) (x59 : List Int) (x60 : Bool) : Option (Bool) := runJ laws_FnJubileesSummed.g T laws_FnJubileesSummed.i [true, true, true, true, true, true, true, true, true, true, true, true, true, true, true, true, true, true, true, true, true, true, true, true, true, true, true, true, true, true, true, true, true] [(16, .own 3 (.int .i64) x16), (32, .own 3 (.int .i64) x32), (33, .val (.int .i64) x33), (34, .val (.int .i64) x34), (35, .val (.int .i64) x35), (36, .val (.int .i64) x36), (37, .val .bool x37), (41, .own 3 (.int .i64) x41), (42, .val (.int .i64) x42), (43, .val (.int .i64) x43), (44, .val (.int .i64) x44), (45, .val .bool x45), (48, .val (.slice (.int .i64)) x48), (49, .val (.slice (.int .i64)) x49), (50, .val (.slice (.int .i64)) x50), (51, .val .bool x51), (54, .val .str x54), (55, .val .bool x55), (58, .val .str x58), (59, .val (.slice (.int .i64)) x59), (60, .val .bool x60)] []
noncomputable def laws_FnJubileesSummed.l4 (x16 : List Int) (x32 : List Int) (x33 : Int) (x34 : Int) (x35 : Int) (x36 : Int) (x41 : List Int) (x42 : Int) (x43 : Int) (x44 : Int) (x45 : Bool) (x48 : List Int) (x49 : List Int) (x50 : List Int) (x51 : Bool) (x54 : List UInt8) (x55 : Bool) (x58 : List UInt8) (x59 : List Int) (x60 : Bool) (x79 : Int) : Option (Bool) := runAt laws_FnJubileesSummed.g T laws_FnJubileesSummed.i [true, true, true, true, true, true, true, true, true, true, true, true, true, true, true, true, true, true, true, true, true, true, true, true, true, true, true, true, true, true, true, true, true, false, true, false, false, true, false] [(16, .own 3 (.int .i64) x16), (32, .own 3 (.int .i64) x32), (33, .val (.int .i64) x33), (34, .val (.int .i64) x34), (35, .val (.int .i64) x35), (36, .val (.int .i64) x36), (41, .own 3 (.int .i64) x41), (42, .val (.int .i64) x42), (43, .val (.int .i64) x43), (44, .val (.int .i64) x44), (45, .val .bool x45), (48, .val (.slice (.int .i64)) x48), (49, .val (.slice (.int .i64)) x49), (50, .val (.slice (.int .i64)) x50), (51, .val .bool x51), (54, .val .str x54), (55, .val .bool x55), (58, .val .str x58), (59, .val (.slice (.int .i64)) x59), (60, .val .bool x60), (79, .val (.int .i64) x79)] []
noncomputable def laws_FnJubileesSummed.j13 (x16 : List Int) (x32 : List Int) (x33 : Int) (x34 : Int) (x35 : Int) (x36 : Int) (x41 : List Int) (x42 : Int) (x43 : Int) (x44 : Int) (x45 : Bool) (x48 : List Int) (x49 : List Int) (x50 : List Int) (x51 : Bool) (x54 : List UInt8) (x55 : Bool) (x58 : List UInt8) (x59 : List Int) (x60 : Bool) (x79 : Int) (x80 : List Int) (x81 : Bool) : Option (Bool) := runJ laws_FnJubileesSummed.g T laws_FnJubileesSummed.i [true, true, true, true, true, true, true, true, true, true, true, true, true, true, true, true, true, true, true, true, true, true, true, true, true, true, true, true, true, true, true, true, true, false, true, false, false, true, false, false, true, false, false, true] [(16, .own 3 (.int .i64) x16), (32, .own 3 (.int .i64) x32), (33, .val (.int .i64) x33), (34, .val (.int .i64) x34), (35, .val (.int .i64) x35), (36, .val (.int .i64) x36), (41, .own 3 (.int .i64) x41), (42, .val (.int .i64) x42), (43, .val (.int .i64) x43), (44, .val (.int .i64) x44), (45, .val .bool x45), (48, .val (.slice (.int .i64)) x48), (49, .val (.slice (.int .i64)) x49), (50, .val (.slice (.int .i64)) x50), (51, .val .bool x51), (54, .val .str x54), (55, .val .bool x55), (58, .val .str x58), (59, .val (.slice (.int .i64)) x59), (60, .val .bool x60), (79, .val (.int .i64) x79), (80, .own 3 (.int .i64) x80), (81, .val .bool x81)] []
noncomputable def laws_FnJubileesSummed.j14 (x16 : List Int) (x41 : List Int) (x42 : Int) (x43 : Int) (x44 : Int) (x45 : Bool) (x48 : List Int) (x49 : List Int) (x50 : List Int) (x51 : Bool) (x54 : List UInt8) (x55 : Bool) (x58 : List UInt8) (x59 : List Int) (x60 : Bool) : Option (Bool) := runJ laws_FnJubileesSummed.g T laws_FnJubileesSummed.i [true, true, true, true, true, true, true, true, true, true, true, true, true, true, true, true, true, true, true, true, true, true, true, true, true, true, true, true, true, true, true, true, true, true] [(16, .own 3 (.int .i64) x16), (41, .own 3 (.int .i64) x41), (42, .val (.int .i64) x42), (43, .val (.int .i64) x43), (44, .val (.int .i64) x44), (45, .val .bool x45), (48, .val (.slice (.int .i64)) x48), (49, .val (.slice (.int .i64)) x49), (50, .val (.slice (.int .i64)) x50), (51, .val .bool x51), (54, .val .str x54), (55, .val .bool x55), (58, .val .str x58), (59, .val (.slice (.int .i64)) x59), (60, .val .bool x60)] []
noncomputable def laws_FnJubileesSummed.j15 (x16 : List Int) (x48 : List Int) (x49 : List Int) (x50 : List Int) (x51 : Bool) (x54 : List UInt8) (x55 : Bool) (x58 : List UInt8) (x59 : List Int) (x60 : Bool) (x577 : Bool) : Option (Bool) := runJ laws_FnJubileesSummed.g T laws_FnJubileesSummed.i [true, true, true, true, true, true, true, true, true, true, true, true, true, true, true, true, true, true, true, true, true, true, true, true, true, true, true, true, true, true, true, true, true, true, false, true] [(16, .own 3 (.int .i64) x16), (48, .val (.slice (.int .i64)) x48), (49, .val (.slice (.int .i64)) x49), (50, .val (.slice (.int .i64)) x50), (51, .val .bool x51), (54, .val .str x54), (55, .val .bool x55), (58, .val .str x58), (59, .val (.slice (.int .i64)) x59), (60, .val .bool x60), (577, .val .bool x577)] []
noncomputable def laws_FnJubileesSummed.j16 (x16 : List Int) (x54 : List UInt8) (x55 : Bool) (x58 : List UInt8) (x59 : List Int) (x60 : Bool) (x606 : Bool) : Option (Bool) := runJ laws_FnJubileesSummed.g T laws_FnJubileesSummed.i [true, true, true, true, true, true, true, true, true, true, true, true, true, true, true, true, true, true, true, true, true, true, true, true, true, true, true, true, true, true, true, true, true, true, true, false, true] [(16, .own 3 (.int .i64) x16), (54, .val .str x54), (55, .val .bool x55), (58, .val .str x58), (59, .val (.slice (.int .i64)) x59), (60, .val .bool x60), (606, .val .bool x606)] []
noncomputable def laws_FnJubileesSummed.j17 (x58 : List UInt8) (x59 : List Int) (x60 : Bool) (x620 : Bool) : Option (Bool) := runJ laws_FnJubileesSummed.g T laws_FnJubileesSummed.i [true, true, true, true, true, true, true, true, true, true, true, true, true, true, true, true, true, true, true, true, true, true, true, true, true, true, true, true, true, true, true, true, true, true, true, true, false, true, false, true, true] [(58, .val .str x58), (59, .val (.slice (.int .i64)) x59), (60, .val .bool x60), (620, .val .bool x620)] []
theorem laws_FnJubileesSummed.f.eq (x0 : List Int) (x1 : List Int) : laws_FnJubileesSummed.f x0 x1 =
  (laws_big.f x0 x1).bind fun y1 =>
  if y1 = true then
    some true
  else
    (spec_DrawRoundSums.f x0).bind fun y2 =>
    (impl_RoundSums.f y2.1 y2.2.1 y2.2.2.1 y2.2.2.2).bind fun y3 =>
    (spec_RoundSums.f y2.1 y2.2.1 y2.2.2.1 y2.2.2.2).bind fun y4 =>
    if (!(y3.2 == y4.2)) = true then
      laws_FnJubileesSummed.j0 x1 y2.1 y2.2.1 y2.2.2.1 y2.2.2.2 y3.1 y3.2 true
    else
      (laws_qSame.f y3.1 y4.1).bind fun y72 =>
      laws_FnJubileesSummed.j0 x1 y2.1 y2.2.1 y2.2.2.1 y2.2.2.2 y3.1 y3.2 (if false = true then true else !y72) := by kernel_rfl
theorem laws_FnJubileesSummed.j0.eq (x1 : List Int) (x5 : List Int) (x6 : Int) (x7 : Int) (x8 : Int) (x9 : List Int) (x10 : Bool) (x120 : Bool) : laws_FnJubileesSummed.j0 x1 x5 x6 x7 x8 x9 x10 x120 =
  if x120 = true then
    some false
  else
    if x10 = true then
      (laws_qRises.f x9).bind fun y1 =>
      if (!y1) = true then
        some false
      else
        laws_FnJubileesSummed.l0 x1 x5 x7 x8 x9 x6
    else
      laws_FnJubileesSummed.j2 x1 := (runJ_eq _ _ _ _ _ _).trans (by kernel_rfl)
theorem laws_FnJubileesSummed.l0.eq (x1 : List Int) (x5 : List Int) (x7 : Int) (x8 : Int) (x9 : List Int) (x13 : Int) : laws_FnJubileesSummed.l0 x1 x5 x7 x8 x9 x13 =
  if (decide (x13 ≤ x7)) = true then
    (impl_SumOfAges.f x5 x13).bind fun y2 =>
    laws_FnJubileesSummed.j1 x1 x5 x7 x8 x9 x13 y2.1 y2.2
  else
    laws_FnJubileesSummed.j2 x1 := (runAt_loop _ _ _ _ _ _).trans (by kernel_rfl)
theorem laws_FnJubileesSummed.j1.eq (x1 : List Int) (x5 : List Int) (x7 : Int) (x8 : Int) (x9 : List Int) (x13 : Int) (x14 : Int) (x15 : Bool) : laws_FnJubileesSummed.j1 x1 x5 x7 x8 x9 x13 x14 x15 =
  if (!x15) = true then
    some false
  else
    (laws_qHas.f x9 x13).bind fun y1 =>
    if (decide (x14 > 0)) = true then
      if x8 = 0 then
        none
      else
        if (if false = true then true else (!(y1 == (if true = true then (x14.tmod x8) == 0 else false)))) = true then
          some false
        else
          laws_FnJubileesSummed.l0 x1 x5 x7 x8 x9 (IntKind.i64.wrap (x13 + 1))
    else
      if (if false = true then true else (!(y1 == false))) = true then
        some false
      else
        laws_FnJubileesSummed.l0 x1 x5 x7 x8 x9 (IntKind.i64.wrap (x13 + 1)) := (runJ_eq _ _ _ _ _ _).trans (by kernel_rfl)
theorem laws_FnJubileesSummed.j2.eq (x1 : List Int) : laws_FnJubileesSummed.j2 x1 =
  (spec_DrawSumOfAges.f x1).bind fun y1 =>
  (impl_SumOfAges.f y1.1 y1.2).bind fun y2 =>
  (spec_SumOfAges.f y1.1 y1.2).bind fun y3 =>
  (impl_SharedEvery.f y1.1 y1.2).bind fun y4 =>
  (spec_SharedEvery.f y1.1 y1.2).bind fun y5 =>
  laws_FnJubileesSummed.j3 x1 y1.1 y1.2 y2.1 y2.2 y3.1 y3.2 y4.1 y4.2 y5.1 y5.2 := (runJ_eq _ _ _ _ _ _).trans (by kernel_rfl)
theorem laws_FnJubileesSummed.j3.eq (x1 : List Int) (x16 : List Int) (x17 : Int) (x18 : Int) (x19 : Bool) (x20 : Int) (x21 : Bool) (x22 : Int) (x23 : Bool) (x24 : Int) (x25 : Bool) : laws_FnJubileesSummed.j3 x1 x16 x17 x18 x19 x20 x21 x22 x23 x24 x25 =
  (spec_DrawYearOfSum.f x1).bind fun y1 =>
  (impl_YearOfSum.f y1.1 y1.2).bind fun y2 =>
  (spec_YearOfSum.f y1.1 y1.2).bind fun y3 =>
  (spec_DrawBestEvery.f x1).bind fun y4 =>
  (impl_BestEvery.f y4.1 y4.2.1 y4.2.2).bind fun y5 =>
  (spec_BestEvery.f y4.1 y4.2.1 y4.2.2).bind fun y6 =>
  (spec_DrawDoubleYear.f x1).bind fun y7 =>
  (impl_DoubleYear.f y7.1 y7.2.1 y7.2.2).bind fun y8 =>
  (spec_DoubleYear.f y7.1 y7.2.1 y7.2.2).bind fun y9 =>
  (spec_DrawJoinBorn.f x1).bind fun y10 =>
  laws_FnJubileesSummed.j4 x1 x16 x17 x18 x19 x20 x21 x22 x23 x24 x25 y1.1 y1.2 y2.1 y2.2 y3.1 y3.2 y4.1 y4.2.1 y4.2.2 y5.1 y5.2.1 y5.2.2 y6.1 y6.2.1 y6.2.2 y7.1 y7.2.1 y7.2.2 y8.1 y8.2 y9.1 y9.2 y10.1 y10.2 := (runJ_eq _ _ _ _ _ _).trans (by kernel_rfl)
theorem laws_FnJubileesSummed.j4.eq (x1 : List Int) (x16 : List Int) (x17 : Int) (x18 : Int) (x19 : Bool) (x20 : Int) (x21 : Bool) (x22 : Int) (x23 : Bool) (x24 : Int) (x25 : Bool) (x26 : List Int) (x27 : Int) (x28 : Int) (x29 : Bool) (x30 : Int) (x31 : Bool) (x32 : List Int) (x33 : Int) (x34 : Int) (x35 : Int) (x36 : Int) (x37 : Bool) (x38 : Int) (x39 : Int) (x40 : Bool) (x41 : List Int) (x42 : Int) (x43 : Int) (x44 : Int) (x45 : Bool) (x46 : Int) (x47 : Bool) (x48 : List Int) (x49 : List Int) : laws_FnJubileesSummed.j4 x1 x16 x17 x18 x19 x20 x21 x22 x23 x24 x25 x26 x27 x28 x29 x30 x31 x32 x33 x34 x35 x36 x37 x38 x39 x40 x41 x42 x43 x44 x45 x46 x47 x48 x49 =
  (impl_JoinBorn.f x48 x49).bind fun y1 =>
  (spec_JoinBorn.f x48 x49).bind fun y2 =>
  (impl_BornText.f x16).bind fun y3 =>
  (spec_BornText.f x16).bind fun y4 =>
  (spec_DrawParseBorn.f x1).bind fun y5 =>
  (impl_ParseBorn.f y5).bind fun y6 =>
  (spec_ParseBorn.f y5).bind fun y7 =>
  laws_FnJubileesSummed.j5 x16 x17 x18 x19 x20 x21 x22 x23 x24 x25 x26 x27 x28 x29 x30 x31 x32 x33 x34 x35 x36 x37 x38 x39 x40 x41 x42 x43 x44 x45 x46 x47 x48 x49 y1.1 y1.2 y2.1 y2.2 y3.1 y3.2 y4.1 y4.2 y5 y6.1 y6.2 y7.1 y7.2 := (runJ_eq _ _ _ _ _ _).trans (by kernel_rfl)
theorem laws_FnJubileesSummed.j5.eq (x16 : List Int) (x17 : Int) (x18 : Int) (x19 : Bool) (x20 : Int) (x21 : Bool) (x22 : Int) (x23 : Bool) (x24 : Int) (x25 : Bool) (x26 : List Int) (x27 : Int) (x28 : Int) (x29 : Bool) (x30 : Int) (x31 : Bool) (x32 : List Int) (x33 : Int) (x34 : Int) (x35 : Int) (x36 : Int) (x37 : Bool) (x38 : Int) (x39 : Int) (x40 : Bool) (x41 : List Int) (x42 : Int) (x43 : Int) (x44 : Int) (x45 : Bool) (x46 : Int) (x47 : Bool) (x48 : List Int) (x49 : List Int) (x50 : List Int) (x51 : Bool) (x52 : List Int) (x53 : Bool) (x54 : List UInt8) (x55 : Bool) (x56 : List UInt8) (x57 : Bool) (x58 : List UInt8) (x59 : List Int) (x60 : Bool) (x61 : List Int) (x62 : Bool) : laws_FnJubileesSummed.j5 x16 x17 x18 x19 x20 x21 x22 x23 x24 x25 x26 x27 x28 x29 x30 x31 x32 x33 x34 x35 x36 x37 x38 x39 x40 x41 x42 x43 x44 x45 x46 x47 x48 x49 x50 x51 x52 x53 x54 x55 x56 x57 x58 x59 x60 x61 x62 =
  if (!(x19 == x21)) = true then
    laws_FnJubileesSummed.j6 x16 x17 x18 x19 x22 x23 x26 x27 x28 x29 x32 x33 x34 x35 x36 x37 x41 x42 x43 x44 x45 x48 x49 x50 x51 x54 x55 x58 x59 x60 true
  else
    if (if false = true then true else (x18 != x20)) = true then
      laws_FnJubileesSummed.j6 x16 x17 x18 x19 x22 x23 x26 x27 x28 x29 x32 x33 x34 x35 x36 x37 x41 x42 x43 x44 x45 x48 x49 x50 x51 x54 x55 x58 x59 x60 true
    else
      if (if false = true then true else (!(x23 == x25))) = true then
        laws_FnJubileesSummed.j6 x16 x17 x18 x19 x22 x23 x26 x27 x28 x29 x32 x33 x34 x35 x36 x37 x41 x42 x43 x44 x45 x48 x49 x50 x51 x54 x55 x58 x59 x60 true
      else
        if (if false = true then true else (x22 != x24)) = true then
          laws_FnJubileesSummed.j6 x16 x17 x18 x19 x22 x23 x26 x27 x28 x29 x32 x33 x34 x35 x36 x37 x41 x42 x43 x44 x45 x48 x49 x50 x51 x54 x55 x58 x59 x60 true
        else
          if (if false = true then true else (!(x29 == x31))) = true then
            laws_FnJubileesSummed.j6 x16 x17 x18 x19 x22 x23 x26 x27 x28 x29 x32 x33 x34 x35 x36 x37 x41 x42 x43 x44 x45 x48 x49 x50 x51 x54 x55 x58 x59 x60 true
          else
            if (if false = true then true else (x28 != x30)) = true then
              laws_FnJubileesSummed.j6 x16 x17 x18 x19 x22 x23 x26 x27 x28 x29 x32 x33 x34 x35 x36 x37 x41 x42 x43 x44 x45 x48 x49 x50 x51 x54 x55 x58 x59 x60 true
            else
              if (if false = true then true else (!(x37 == x40))) = true then
                laws_FnJubileesSummed.j6 x16 x17 x18 x19 x22 x23 x26 x27 x28 x29 x32 x33 x34 x35 x36 x37 x41 x42 x43 x44 x45 x48 x49 x50 x51 x54 x55 x58 x59 x60 true
              else
                if (if false = true then true else (x35 != x38)) = true then
                  laws_FnJubileesSummed.j6 x16 x17 x18 x19 x22 x23 x26 x27 x28 x29 x32 x33 x34 x35 x36 x37 x41 x42 x43 x44 x45 x48 x49 x50 x51 x54 x55 x58 x59 x60 true
                else
                  if (if false = true then true else (x36 != x39)) = true then
                    laws_FnJubileesSummed.j6 x16 x17 x18 x19 x22 x23 x26 x27 x28 x29 x32 x33 x34 x35 x36 x37 x41 x42 x43 x44 x45 x48 x49 x50 x51 x54 x55 x58 x59 x60 true
                  else
                    if (if false = true then true else (!(x45 == x47))) = true then
                      laws_FnJubileesSummed.j6 x16 x17 x18 x19 x22 x23 x26 x27 x28 x29 x32 x33 x34 x35 x36 x37 x41 x42 x43 x44 x45 x48 x49 x50 x51 x54 x55 x58 x59 x60 true
                    else
                      if (if false = true then true else (x44 != x46)) = true then
                        laws_FnJubileesSummed.j6 x16 x17 x18 x19 x22 x23 x26 x27 x28 x29 x32 x33 x34 x35 x36 x37 x41 x42 x43 x44 x45 x48 x49 x50 x51 x54 x55 x58 x59 x60 true
                      else
                        if (if false = true then true else (!(x51 == x53))) = true then
                          laws_FnJubileesSummed.j6 x16 x17 x18 x19 x22 x23 x26 x27 x28 x29 x32 x33 x34 x35 x36 x37 x41 x42 x43 x44 x45 x48 x49 x50 x51 x54 x55 x58 x59 x60 true
                        else
                          (laws_qSame.f x50 x52).bind fun y54 =>
                          if (if false = true then true else !y54) = true then
                            laws_FnJubileesSummed.j6 x16 x17 x18 x19 x22 x23 x26 x27 x28 x29 x32 x33 x34 x35 x36 x37 x41 x42 x43 x44 x45 x48 x49 x50 x51 x54 x55 x58 x59 x60 true
                          else
                            if (if false = true then true else (!(x55 == x57))) = true then
                              laws_FnJubileesSummed.j6 x16 x17 x18 x19 x22 x23 x26 x27 x28 x29 x32 x33 x34 x35 x36 x37 x41 x42 x43 x44 x45 x48 x49 x50 x51 x54 x55 x58 x59 x60 true
                            else
                              if (if false = true then true else (!(x54 == x56))) = true then
                                laws_FnJubileesSummed.j6 x16 x17 x18 x19 x22 x23 x26 x27 x28 x29 x32 x33 x34 x35 x36 x37 x41 x42 x43 x44 x45 x48 x49 x50 x51 x54 x55 x58 x59 x60 true
                              else
                                if (if false = true then true else (!(x60 == x62))) = true then
                                  laws_FnJubileesSummed.j6 x16 x17 x18 x19 x22 x23 x26 x27 x28 x29 x32 x33 x34 x35 x36 x37 x41 x42 x43 x44 x45 x48 x49 x50 x51 x54 x55 x58 x59 x60 true
                                else
                                  (laws_qSame.f x59 x61).bind fun y62 =>
                                  if (if false = true then true else !y62) = true then
                                    laws_FnJubileesSummed.j6 x16 x17 x18 x19 x22 x23 x26 x27 x28 x29 x32 x33 x34 x35 x36 x37 x41 x42 x43 x44 x45 x48 x49 x50 x51 x54 x55 x58 x59 x60 true
                                  else
                                    if x23 = true then
                                      if (if false = true then true else (if true = true then !x19 else false)) = true then
                                        laws_FnJubileesSummed.j6 x16 x17 x18 x19 x22 x23 x26 x27 x28 x29 x32 x33 x34 x35 x36 x37 x41 x42 x43 x44 x45 x48 x49 x50 x51 x54 x55 x58 x59 x60 true
                                      else
                                        (impl_AreBirths.f x16).bind fun y66 =>
                                        laws_FnJubileesSummed.j6 x16 x17 x18 x19 x22 x23 x26 x27 x28 x29 x32 x33 x34 x35 x36 x37 x41 x42 x43 x44 x45 x48 x49 x50 x51 x54 x55 x58 x59 x60 (if false = true then true else (!(x55 == y66)))
                                    else
                                      (impl_AreBirths.f x16).bind fun y69 =>
                                      laws_FnJubileesSummed.j6 x16 x17 x18 x19 x22 x23 x26 x27 x28 x29 x32 x33 x34 x35 x36 x37 x41 x42 x43 x44 x45 x48 x49 x50 x51 x54 x55 x58 x59 x60 (if false = true then true else (!(x55 == y69))) := (runJ_eq _ _ _ _ _ _).trans (by kernel_rfl)
theorem laws_FnJubileesSummed.j6.eq (x16 : List Int) (x17 : Int) (x18 : Int) (x19 : Bool) (x22 : Int) (x23 : Bool) (x26 : List Int) (x27 : Int) (x28 : Int) (x29 : Bool) (x32 : List Int) (x33 : Int) (x34 : Int) (x35 : Int) (x36 : Int) (x37 : Bool) (x41 : List Int) (x42 : Int) (x43 : Int) (x44 : Int) (x45 : Bool) (x48 : List Int) (x49 : List Int) (x50 : List Int) (x51 : Bool) (x54 : List UInt8) (x55 : Bool) (x58 : List UInt8) (x59 : List Int) (x60 : Bool) (x377 : Bool) : laws_FnJubileesSummed.j6 x16 x17 x18 x19 x22 x23 x26 x27 x28 x29 x32 x33 x34 x35 x36 x37 x41 x42 x43 x44 x45 x48 x49 x50 x51 x54 x55 x58 x59 x60 x377 =
  if x377 = true then
    some false
  else
    if x19 = true then
      laws_FnJubileesSummed.l1 x16 x17 x18 x22 x23 x26 x27 x28 x29 x32 x33 x34 x35 x36 x37 x41 x42 x43 x44 x45 x48 x49 x50 x51 x54 x55 x58 x59 x60 0 true (x16.length : Int) 0
    else
      laws_FnJubileesSummed.j7 x16 x17 x18 x22 x23 x26 x27 x28 x29 x32 x33 x34 x35 x36 x37 x41 x42 x43 x44 x45 x48 x49 x50 x51 x54 x55 x58 x59 x60 := (runJ_eq _ _ _ _ _ _).trans (by kernel_rfl)
theorem laws_FnJubileesSummed.l1.eq (x16 : List Int) (x17 : Int) (x18 : Int) (x22 : Int) (x23 : Bool) (x26 : List Int) (x27 : Int) (x28 : Int) (x29 : Bool) (x32 : List Int) (x33 : Int) (x34 : Int) (x35 : Int) (x36 : Int) (x37 : Bool) (x41 : List Int) (x42 : Int) (x43 : Int) (x44 : Int) (x45 : Bool) (x48 : List Int) (x49 : List Int) (x50 : List Int) (x51 : Bool) (x54 : List UInt8) (x55 : Bool) (x58 : List UInt8) (x59 : List Int) (x60 : Bool) (x63 : Int) (x64 : Bool) (x380 : Int) (x381 : Int) : laws_FnJubileesSummed.l1 x16 x17 x18 x22 x23 x26 x27 x28 x29 x32 x33 x34 x35 x36 x37 x41 x42 x43 x44 x45 x48 x49 x50 x51 x54 x55 x58 x59 x60 x63 x64 x380 x381 =
  if (decide (x381 < x380)) = true then
    (rdI x16 x381).bind fun y2 =>
    let y3 := IntKind.i64.wrap (x17 - y2)
    if (decide (y3 ≥ 0)) = true then
      if (if true = true then (decide (y3 ≤ 120)) else false) = true then
        laws_FnJubileesSummed.l1 x16 x17 x18 x22 x23 x26 x27 x28 x29 x32 x33 x34 x35 x36 x37 x41 x42 x43 x44 x45 x48 x49 x50 x51 x54 x55 x58 x59 x60 (IntKind.i64.wrap (x63 + y3)) x64 x380 (IntKind.i64.wrap (x381 + 1))
      else
        laws_FnJubileesSummed.l1 x16 x17 x18 x22 x23 x26 x27 x28 x29 x32 x33 x34 x35 x36 x37 x41 x42 x43 x44 x45 x48 x49 x50 x51 x54 x55 x58 x59 x60 x63 false x380 (IntKind.i64.wrap (x381 + 1))
    else
      laws_FnJubileesSummed.l1 x16 x17 x18 x22 x23 x26 x27 x28 x29 x32 x33 x34 x35 x36 x37 x41 x42 x43 x44 x45 x48 x49 x50 x51 x54 x55 x58 x59 x60 x63 false x380 (IntKind.i64.wrap (x381 + 1))
  else
    if (x63 != x18) = true then
      some false
    else
      if x64 = true then
        if (if false = true then true else (!(x23 == (if true = true then (decide (x18 > 0)) else false)))) = true then
          some false
        else
          laws_FnJubileesSummed.j7 x16 x17 x18 x22 x23 x26 x27 x28 x29 x32 x33 x34 x35 x36 x37 x41 x42 x43 x44 x45 x48 x49 x50 x51 x54 x55 x58 x59 x60
      else
        if (if false = true then true else (!(x23 == false))) = true then
          some false
        else
          laws_FnJubileesSummed.j7 x16 x17 x18 x22 x23 x26 x27 x28 x29 x32 x33 x34 x35 x36 x37 x41 x42 x43 x44 x45 x48 x49 x50 x51 x54 x55 x58 x59 x60 := (runAt_loop _ _ _ _ _ _).trans (by kernel_rfl)
theorem laws_FnJubileesSummed.j7.eq (x16 : List Int) (x17 : Int) (x18 : Int) (x22 : Int) (x23 : Bool) (x26 : List Int) (x27 : Int) (x28 : Int) (x29 : Bool) (x32 : List Int) (x33 : Int) (x34 : Int) (x35 : Int) (x36 : Int) (x37 : Bool) (x41 : List Int) (x42 : Int) (x43 : Int) (x44 : Int) (x45 : Bool) (x48 : List Int) (x49 : List Int) (x50 : List Int) (x51 : Bool) (x54 : List UInt8) (x55 : Bool) (x58 : List UInt8) (x59 : List Int) (x60 : Bool) : laws_FnJubileesSummed.j7 x16 x17 x18 x22 x23 x26 x27 x28 x29 x32 x33 x34 x35 x36 x37 x41 x42 x43 x44 x45 x48 x49 x50 x51 x54 x55 x58 x59 x60 =
  if x23 = true then
    if (decide (x22 < 1)) = true then
      laws_FnJubileesSummed.j8 x16 x17 x22 x26 x27 x28 x29 x32 x33 x34 x35 x36 x37 x41 x42 x43 x44 x45 x48 x49 x50 x51 x54 x55 x58 x59 x60 true
    else
      if x22 = 0 then
        none
      else
        laws_FnJubileesSummed.j8 x16 x17 x22 x26 x27 x28 x29 x32 x33 x34 x35 x36 x37 x41 x42 x43 x44 x45 x48 x49 x50 x51 x54 x55 x58 x59 x60 (if false = true then true else (x18.tmod x22) != 0)
  else
    laws_FnJubileesSummed.j10 x16 x26 x27 x28 x29 x32 x33 x34 x35 x36 x37 x41 x42 x43 x44 x45 x48 x49 x50 x51 x54 x55 x58 x59 x60 := (runJ_eq _ _ _ _ _ _).trans (by kernel_rfl)
theorem laws_FnJubileesSummed.j8.eq (x16 : List Int) (x17 : Int) (x22 : Int) (x26 : List Int) (x27 : Int) (x28 : Int) (x29 : Bool) (x32 : List Int) (x33 : Int) (x34 : Int) (x35 : Int) (x36 : Int) (x37 : Bool) (x41 : List Int) (x42 : Int) (x43 : Int) (x44 : Int) (x45 : Bool) (x48 : List Int) (x49 : List Int) (x50 : List Int) (x51 : Bool) (x54 : List UInt8) (x55 : Bool) (x58 : List UInt8) (x59 : List Int) (x60 : Bool) (x418 : Bool) : laws_FnJubileesSummed.j8 x16 x17 x22 x26 x27 x28 x29 x32 x33 x34 x35 x36 x37 x41 x42 x43 x44 x45 x48 x49 x50 x51 x54 x55 x58 x59 x60 x418 =
  if x418 = true then
    some false
  else
    laws_FnJubileesSummed.l2 x16 x17 x22 x26 x27 x28 x29 x32 x33 x34 x35 x36 x37 x41 x42 x43 x44 x45 x48 x49 x50 x51 x54 x55 x58 x59 x60 (x16.length : Int) 0 := (runJ_eq _ _ _ _ _ _).trans (by kernel_rfl)
theorem laws_FnJubileesSummed.l2.eq (x16 : List Int) (x17 : Int) (x22 : Int) (x26 : List Int) (x27 : Int) (x28 : Int) (x29 : Bool) (x32 : List Int) (x33 : Int) (x34 : Int) (x35 : Int) (x36 : Int) (x37 : Bool) (x41 : List Int) (x42 : Int) (x43 : Int) (x44 : Int) (x45 : Bool) (x48 : List Int) (x49 : List Int) (x50 : List Int) (x51 : Bool) (x54 : List UInt8) (x55 : Bool) (x58 : List UInt8) (x59 : List Int) (x60 : Bool) (x420 : Int) (x421 : Int) : laws_FnJubileesSummed.l2 x16 x17 x22 x26 x27 x28 x29 x32 x33 x34 x35 x36 x37 x41 x42 x43 x44 x45 x48 x49 x50 x51 x54 x55 x58 x59 x60 x420 x421 =
  if (decide (x421 < x420)) = true then
    (rdI x16 x421).bind fun y2 =>
    if x22 = 0 then
      none
    else
      if (((IntKind.i64.wrap (x17 - y2)).tmod x22) != 0) = true then
        some false
      else
        laws_FnJubileesSummed.l2 x16 x17 x22 x26 x27 x28 x29 x32 x33 x34 x35 x36 x37 x41 x42 x43 x44 x45 x48 x49 x50 x51 x54 x55 x58 x59 x60 x420 (IntKind.i64.wrap (x421 + 1))
  else
    if (decide (x22 ≤ 100)) = true then
      (impl_JubileesIn.f x16 x17 x22).bind fun y7 =>
      laws_FnJubileesSummed.l3 x16 x17 x26 x27 x28 x29 x32 x33 x34 x35 x36 x37 x41 x42 x43 x44 x45 x48 x49 x50 x51 x54 x55 x58 x59 x60 y7.1 y7.2 0 (x16.length : Int) 0
    else
      laws_FnJubileesSummed.j10 x16 x26 x27 x28 x29 x32 x33 x34 x35 x36 x37 x41 x42 x43 x44 x45 x48 x49 x50 x51 x54 x55 x58 x59 x60 := (runAt_loop _ _ _ _ _ _).trans (by kernel_rfl)
theorem laws_FnJubileesSummed.l3.eq (x16 : List Int) (x17 : Int) (x26 : List Int) (x27 : Int) (x28 : Int) (x29 : Bool) (x32 : List Int) (x33 : Int) (x34 : Int) (x35 : Int) (x36 : Int) (x37 : Bool) (x41 : List Int) (x42 : Int) (x43 : Int) (x44 : Int) (x45 : Bool) (x48 : List Int) (x49 : List Int) (x50 : List Int) (x51 : Bool) (x54 : List UInt8) (x55 : Bool) (x58 : List UInt8) (x59 : List Int) (x60 : Bool) (x70 : List Int) (x71 : Bool) (x72 : Int) (x442 : Int) (x443 : Int) : laws_FnJubileesSummed.l3 x16 x17 x26 x27 x28 x29 x32 x33 x34 x35 x36 x37 x41 x42 x43 x44 x45 x48 x49 x50 x51 x54 x55 x58 x59 x60 x70 x71 x72 x442 x443 =
  if (decide (x443 < x442)) = true then
    (rdI x16 x443).bind fun y2 =>
    if (y2 == x17) = true then
      laws_FnJubileesSummed.l3 x16 x17 x26 x27 x28 x29 x32 x33 x34 x35 x36 x37 x41 x42 x43 x44 x45 x48 x49 x50 x51 x54 x55 x58 x59 x60 x70 x71 (IntKind.i64.wrap (x72 + 1)) x442 (IntKind.i64.wrap (x443 + 1))
    else
      laws_FnJubileesSummed.l3 x16 x17 x26 x27 x28 x29 x32 x33 x34 x35 x36 x37 x41 x42 x43 x44 x45 x48 x49 x50 x51 x54 x55 x58 x59 x60 x70 x71 x72 x442 (IntKind.i64.wrap (x443 + 1))
  else
    laws_FnJubileesSummed.j9 x16 x26 x27 x28 x29 x32 x33 x34 x35 x36 x37 x41 x42 x43 x44 x45 x48 x49 x50 x51 x54 x55 x58 x59 x60 x70 x71 x72 := (runAt_loop _ _ _ _ _ _).trans (by kernel_rfl)
theorem laws_FnJubileesSummed.j9.eq (x16 : List Int) (x26 : List Int) (x27 : Int) (x28 : Int) (x29 : Bool) (x32 : List Int) (x33 : Int) (x34 : Int) (x35 : Int) (x36 : Int) (x37 : Bool) (x41 : List Int) (x42 : Int) (x43 : Int) (x44 : Int) (x45 : Bool) (x48 : List Int) (x49 : List Int) (x50 : List Int) (x51 : Bool) (x54 : List UInt8) (x55 : Bool) (x58 : List UInt8) (x59 : List Int) (x60 : Bool) (x70 : List Int) (x71 : Bool) (x72 : Int) : laws_FnJubileesSummed.j9 x16 x26 x27 x28 x29 x32 x33 x34 x35 x36 x37 x41 x42 x43 x44 x45 x48 x49 x50 x51 x54 x55 x58 x59 x60 x70 x71 x72 =
  if (!x71) = true then
    some false
  else
    if (if false = true then true else (IntKind.i64.wrap ((x70.length : Int) + x72)) != (x16.length : Int)) = true then
      some false
    else
      laws_FnJubileesSummed.j10 x16 x26 x27 x28 x29 x32 x33 x34 x35 x36 x37 x41 x42 x43 x44 x45 x48 x49 x50 x51 x54 x55 x58 x59 x60 := (runJ_eq _ _ _ _ _ _).trans (by kernel_rfl)
theorem laws_FnJubileesSummed.j10.eq (x16 : List Int) (x26 : List Int) (x27 : Int) (x28 : Int) (x29 : Bool) (x32 : List Int) (x33 : Int) (x34 : Int) (x35 : Int) (x36 : Int) (x37 : Bool) (x41 : List Int) (x42 : Int) (x43 : Int) (x44 : Int) (x45 : Bool) (x48 : List Int) (x49 : List Int) (x50 : List Int) (x51 : Bool) (x54 : List UInt8) (x55 : Bool) (x58 : List UInt8) (x59 : List Int) (x60 : Bool) : laws_FnJubileesSummed.j10 x16 x26 x27 x28 x29 x32 x33 x34 x35 x36 x37 x41 x42 x43 x44 x45 x48 x49 x50 x51 x54 x55 x58 x59 x60 =
  if x29 = true then
    (impl_SumOfAges.f x26 x28).bind fun y1 =>
    if (!y1.2) = true then
      laws_FnJubileesSummed.j11 x16 x26 x27 x28 x32 x33 x34 x35 x36 x37 x41 x42 x43 x44 x45 x48 x49 x50 x51 x54 x55 x58 x59 x60 true
    else
      laws_FnJubileesSummed.j11 x16 x26 x27 x28 x32 x33 x34 x35 x36 x37 x41 x42 x43 x44 x45 x48 x49 x50 x51 x54 x55 x58 x59 x60 (if false = true then true else (decide (y1.1 < x27)))
  else
    laws_FnJubileesSummed.j12 x16 x32 x33 x34 x35 x36 x37 x41 x42 x43 x44 x45 x48 x49 x50 x51 x54 x55 x58 x59 x60 := (runJ_eq _ _ _ _ _ _).trans (by kernel_rfl)
theorem laws_FnJubileesSummed.j11.eq (x16 : List Int) (x26 : List Int) (x27 : Int) (x28 : Int) (x32 : List Int) (x33 : Int) (x34 : Int) (x35 : Int) (x36 : Int) (x37 : Bool) (x41 : List Int) (x42 : Int) (x43 : Int) (x44 : Int) (x45 : Bool) (x48 : List Int) (x49 : List Int) (x50 : List Int) (x51 : Bool) (x54 : List UInt8) (x55 : Bool) (x58 : List UInt8) (x59 : List Int) (x60 : Bool) (x477 : Bool) : laws_FnJubileesSummed.j11 x16 x26 x27 x28 x32 x33 x34 x35 x36 x37 x41 x42 x43 x44 x45 x48 x49 x50 x51 x54 x55 x58 x59 x60 x477 =
  if x477 = true then
    some false
  else
    if (decide (x28 > 0)) = true then
      (impl_SumOfAges.f x26 (IntKind.i64.wrap (x28 - 1))).bind fun y3 =>
      if (!y3.2) = true then
        some false
      else
        if (if false = true then true else (decide (y3.1 ≥ x27))) = true then
          some false
        else
          laws_FnJubileesSummed.j12 x16 x32 x33 x34 x35 x36 x37 x41 x42 x43 x44 x45 x48 x49 x50 x51 x54 x55 x58 x59 x60
    else
      laws_FnJubileesSummed.j12 x16 x32 x33 x34 x35 x36 x37 x41 x42 x43 x44 x45 x48 x49 x50 x51 x54 x55 x58 x59 x60 := (runJ_eq _ _ _ _ _ _).trans (by kernel_rfl)
theorem laws_FnJubileesSummed.j12.eq (x16 : List Int) (x32 : List Int) (x33 : Int) (x34 : Int) (x35 : Int) (x36 : Int) (x37 : Bool) (x41 : List Int) (x42 : Int) (x43 : Int) (x44 : Int) (x45 : Bool) (x48 : List Int) (x49 : List Int) (x50 : List Int) (x51 : Bool) (x54 : List UInt8) (x55 : Bool) (x58 : List UInt8) (x59 : List Int) (x60 : Bool) : laws_FnJubileesSummed.j12 x16 x32 x33 x34 x35 x36 x37 x41 x42 x43 x44 x45 x48 x49 x50 x51 x54 x55 x58 x59 x60 =
  if x37 = true then
    laws_FnJubileesSummed.l4 x16 x32 x33 x34 x35 x36 x41 x42 x43 x44 x45 x48 x49 x50 x51 x54 x55 x58 x59 x60 2
  else
    laws_FnJubileesSummed.j14 x16 x41 x42 x43 x44 x45 x48 x49 x50 x51 x54 x55 x58 x59 x60 := (runJ_eq _ _ _ _ _ _).trans (by kernel_rfl)
theorem laws_FnJubileesSummed.l4.eq (x16 : List Int) (x32 : List Int) (x33 : Int) (x34 : Int) (x35 : Int) (x36 : Int) (x41 : List Int) (x42 : Int) (x43 : Int) (x44 : Int) (x45 : Bool) (x48 : List Int) (x49 : List Int) (x50 : List Int) (x51 : Bool) (x54 : List UInt8) (x55 : Bool) (x58 : List UInt8) (x59 : List Int) (x60 : Bool) (x79 : Int) : laws_FnJubileesSummed.l4 x16 x32 x33 x34 x35 x36 x41 x42 x43 x44 x45 x48 x49 x50 x51 x54 x55 x58 x59 x60 x79 =
  if (decide (x79 ≤ x34)) = true then
    (impl_JubileesIn.f x32 x33 x79).bind fun y2 =>
    laws_FnJubileesSummed.j13 x16 x32 x33 x34 x35 x36 x41 x42 x43 x44 x45 x48 x49 x50 x51 x54 x55 x58 x59 x60 x79 y2.1 y2.2
  else
    if (decide (x35 < 2)) = true then
      some false
    else
      if (if false = true then true else (decide (x35 > x34))) = true then
        some false
      else
        laws_FnJubileesSummed.j14 x16 x41 x42 x43 x44 x45 x48 x49 x50 x51 x54 x55 x58 x59 x60 := (runAt_loop _ _ _ _ _ _).trans (by kernel_rfl)
theorem laws_FnJubileesSummed.j13.eq (x16 : List Int) (x32 : List Int) (x33 : Int) (x34 : Int) (x35 : Int) (x36 : Int) (x41 : List Int) (x42 : Int) (x43 : Int) (x44 : Int) (x45 : Bool) (x48 : List Int) (x49 : List Int) (x50 : List Int) (x51 : Bool) (x54 : List UInt8) (x55 : Bool) (x58 : List UInt8) (x59 : List Int) (x60 : Bool) (x79 : Int) (x80 : List Int) (x81 : Bool) : laws_FnJubileesSummed.j13 x16 x32 x33 x34 x35 x36 x41 x42 x43 x44 x45 x48 x49 x50 x51 x54 x55 x58 x59 x60 x79 x80 x81 =
  if (!x81) = true then
    some false
  else
    if (if false = true then true else (decide ((x80.length : Int) > x36))) = true then
      some false
    else
      if ((x80.length : Int) == x36) = true then
        if (if false = true then true else (if true = true then (decide (x79 > x35)) else false)) = true then
          some false
        else
          if (x79 == x35) = true then
            if (if false = true then true else (if true = true then ((x80.length : Int) != x36) else false)) = true then
              some false
            else
              laws_FnJubileesSummed.l4 x16 x32 x33 x34 x35 x36 x41 x42 x43 x44 x45 x48 x49 x50 x51 x54 x55 x58 x59 x60 (IntKind.i64.wrap (x79 + 1))
          else
            laws_FnJubileesSummed.l4 x16 x32 x33 x34 x35 x36 x41 x42 x43 x44 x45 x48 x49 x50 x51 x54 x55 x58 x59 x60 (IntKind.i64.wrap (x79 + 1))
      else
        if (x79 == x35) = true then
          if (if false = true then true else (if true = true then ((x80.length : Int) != x36) else false)) = true then
            some false
          else
            laws_FnJubileesSummed.l4 x16 x32 x33 x34 x35 x36 x41 x42 x43 x44 x45 x48 x49 x50 x51 x54 x55 x58 x59 x60 (IntKind.i64.wrap (x79 + 1))
        else
          laws_FnJubileesSummed.l4 x16 x32 x33 x34 x35 x36 x41 x42 x43 x44 x45 x48 x49 x50 x51 x54 x55 x58 x59 x60 (IntKind.i64.wrap (x79 + 1)) := (runJ_eq _ _ _ _ _ _).trans (by kernel_rfl)
theorem laws_FnJubileesSummed.j14.eq (x16 : List Int) (x41 : List Int) (x42 : Int) (x43 : Int) (x44 : Int) (x45 : Bool) (x48 : List Int) (x49 : List Int) (x50 : List Int) (x51 : Bool) (x54 : List UInt8) (x55 : Bool) (x58 : List UInt8) (x59 : List Int) (x60 : Bool) : laws_FnJubileesSummed.j14 x16 x41 x42 x43 x44 x45 x48 x49 x50 x51 x54 x55 x58 x59 x60 =
  if x45 = true then
    (rdI x41 x42).bind fun y1 =>
    (rdI x41 x43).bind fun y3 =>
    if ((IntKind.i64.wrap (x44 - y1)) != (IntKind.i64.wrap (2 * (IntKind.i64.wrap (x44 - y3))))) = true then
      laws_FnJubileesSummed.j15 x16 x48 x49 x50 x51 x54 x55 x58 x59 x60 true
    else
      (rdI x41 x43).bind fun y18 =>
      if (if false = true then true else (decide (x44 ≤ y18))) = true then
        laws_FnJubileesSummed.j15 x16 x48 x49 x50 x51 x54 x55 x58 x59 x60 true
      else
        (rdI x41 x42).bind fun y21 =>
        laws_FnJubileesSummed.j15 x16 x48 x49 x50 x51 x54 x55 x58 x59 x60 (if true = true then (if false = true then true else (decide ((IntKind.i64.wrap (x44 - y21)) > 120))) else false)
  else
    laws_FnJubileesSummed.j15 x16 x48 x49 x50 x51 x54 x55 x58 x59 x60 false := (runJ_eq _ _ _ _ _ _).trans (by kernel_rfl)
theorem laws_FnJubileesSummed.j15.eq (x16 : List Int) (x48 : List Int) (x49 : List Int) (x50 : List Int) (x51 : Bool) (x54 : List UInt8) (x55 : Bool) (x58 : List UInt8) (x59 : List Int) (x60 : Bool) (x577 : Bool) : laws_FnJubileesSummed.j15 x16 x48 x49 x50 x51 x54 x55 x58 x59 x60 x577 =
  if x577 = true then
    some false
  else
    if x51 = true then
      if ((x50.length : Int) != (IntKind.i64.wrap ((x48.length : Int) + (x49.length : Int)))) = true then
        laws_FnJubileesSummed.j16 x16 x54 x55 x58 x59 x60 true
      else
        (subI x50 0 (x48.length : Int)).bind fun y10 =>
        (laws_qSame.f y10 x48).bind fun y11 =>
        if (if false = true then true else !y11) = true then
          laws_FnJubileesSummed.j16 x16 x54 x55 x58 x59 x60 true
        else
          (subI x50 (x48.length : Int) x50.length).bind fun y14 =>
          (laws_qSame.f y14 x49).bind fun y15 =>
          laws_FnJubileesSummed.j16 x16 x54 x55 x58 x59 x60 (if true = true then (if false = true then true else !y15) else false)
    else
      laws_FnJubileesSummed.j16 x16 x54 x55 x58 x59 x60 false := (runJ_eq _ _ _ _ _ _).trans (by kernel_rfl)
theorem laws_FnJubileesSummed.j16.eq (x16 : List Int) (x54 : List UInt8) (x55 : Bool) (x58 : List UInt8) (x59 : List Int) (x60 : Bool) (x606 : Bool) : laws_FnJubileesSummed.j16 x16 x54 x55 x58 x59 x60 x606 =
  if x606 = true then
    some false
  else
    if x55 = true then
      (impl_ParseBorn.f x54).bind fun y1 =>
      if (!y1.2) = true then
        laws_FnJubileesSummed.j17 x58 x59 x60 true
      else
        (laws_qSame.f y1.1 x16).bind fun y4 =>
        laws_FnJubileesSummed.j17 x58 x59 x60 (if false = true then true else !y4)
    else
      if x60 = true then
        (impl_BornText.f x59).bind fun y6 =>
        if y6.2 = true then
          some (if true = true then (y6.1 == x58) else false)
        else
          some false
      else
        some true := (runJ_eq _ _ _ _ _ _).trans (by kernel_rfl)
theorem laws_FnJubileesSummed.j17.eq (x58 : List UInt8) (x59 : List Int) (x60 : Bool) (x620 : Bool) : laws_FnJubileesSummed.j17 x58 x59 x60 x620 =
  if x620 = true then
    some false
  else
    if x60 = true then
      (impl_BornText.f x59).bind fun y1 =>
      if y1.2 = true then
        some (if true = true then (y1.1 == x58) else false)
      else
        some false
    else
      some true := (runJ_eq _ _ _ _ _ _).trans (by kernel_rfl)
end Go.Proofs.YtpnkeknmgfdpdaaGreatDoorRR.S
