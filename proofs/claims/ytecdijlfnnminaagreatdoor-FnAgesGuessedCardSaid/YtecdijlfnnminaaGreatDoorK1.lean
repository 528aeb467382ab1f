/- What the functions of this seat come to, over plain values. No condition. -/
import Derived.Test.YtecdijlfnnminaaGreatDoorK0
namespace Go.Proofs.YtecdijlfnnminaaGreatDoor.S
open Go Go.Proofs.YtecdijlfnnminaaGreatDoor.Eng Go.Proofs
set_option maxRecDepth 1000000
set_option linter.unusedVariables false
noncomputable def impl_productOf.g : Gam := [(118, impl_product.sp)]
theorem impl_productOf.gok : GOkI Tryz.prog I impl_productOf.g := (GOkI.nil _ _).cons impl_product.ok
noncomputable def impl_productOf.i : FI := ⟨Tryz.f99, body Tryz.f99, (.seq .nil (.seq .nil .nil)), [], [], [.res (.tmp 2) (.v (.int .i64))]⟩
noncomputable def impl_productOf.sp : CSpec := mkSpec impl_productOf.g T impl_productOf.i
theorem impl_productOf.ok : SpecOk Tryz.prog I 99 impl_productOf.sp := mkSpec_ok hmix hI impl_productOf.gok tok impl_productOf.i Tryz.func99 (by kernel_rfl) (by kernel_rfl) (by kernel_rfl) (by kernel_rfl)
noncomputable def impl_productOf.f (x0 : List Int) : Option (Int) := run impl_productOf.g T impl_productOf.i [.v (.slice (.int .i64)) x0]
theorem impl_productOf.f.eq (x0 : List Int) : impl_productOf.f x0 =
 (impl_product.f x0).bind fun y1 =>
 some y1 := by kernel_rfl
noncomputable def impl_bit.g : Gam := []
theorem impl_bit.gok : GOkI Tryz.prog I impl_bit.g := GOkI.nil _ _
noncomputable def impl_bit.i : FI := ⟨Tryz.f100, body Tryz.f100, (.seq .nil (.seq (.seq .nil (.cond (.seq .nil .nil) .nil)) (.seq .nil .nil))), [], [], [.res (.tmp 2) (.v (.int .i64))]⟩
noncomputable def impl_bit.sp : CSpec := mkSpec impl_bit.g T impl_bit.i
theorem impl_bit.ok : SpecOk Tryz.prog I 100 impl_bit.sp := mkSpec_ok hmix hI impl_bit.gok tok impl_bit.i Tryz.func100 (by kernel_rfl) (by kernel_rfl) (by kernel_rfl) (by kernel_rfl)
noncomputable def impl_bit.f (x0 : Bool) : Option (Int) := run impl_bit.g T impl_bit.i [.v .bool x0]
theorem impl_bit.f.eq (x0 : Bool) : impl_bit.f x0 =
 if x0 = true then
  some 1
 else
  some 0 := by kernel_rfl
noncomputable def impl_isPrime.g : Gam := []
theorem impl_isPrime.gok : GOkI Tryz.prog I impl_isPrime.g := GOkI.nil _ _
noncomputable def impl_isPrime.i : FI := ⟨Tryz.f137, body Tryz.f137, (.seq .nil (.seq (.seq .nil (.blk (.loop [0, 3] [] (.seq (.seq .nil (.cond .nil .nil)) (.seq (.blk (.seq .nil (.cond (.seq .nil .nil) .nil))) .nil))))) (.seq .nil .nil))), [], [], [.res (.tmp 2) (.v .bool)]⟩
noncomputable def impl_isPrime.sp : CSpec := mkSpec impl_isPrime.g T impl_isPrime.i
theorem impl_isPrime.ok : SpecOk Tryz.prog I 137 impl_isPrime.sp := mkSpec_ok hmix hI impl_isPrime.gok tok impl_isPrime.i Tryz.func137 (by kernel_rfl) (by kernel_rfl) (by kernel_rfl) (by kernel_rfl)
noncomputable def impl_isPrime.f (x0 : Int) : Option (Bool) := run impl_isPrime.g T impl_isPrime.i [.v (.int .i64) x0]
noncomputable def impl_isPrime.l0 (x0 : Int) (x3 : Int) : Option (Bool) := runAt impl_isPrime.g T impl_isPrime.i [true, false, true, false] [(0, .val (.int .i64) x0), (3, .val (.int .i64) x3)] []
theorem impl_isPrime.f.eq (x0 : Int) : impl_isPrime.f x0 =
 impl_isPrime.l0 x0 2 := by kernel_rfl
theorem impl_isPrime.l0.eq (x0 : Int) (x3 : Int) : impl_isPrime.l0 x0 x3 =
 if (decide ((IntKind.i64.wrap (x3 * x3)) ≤ x0)) = true then
  if x3 = 0 then
   none
  else
   if ((x0.tmod x3) == 0) = true then
    some false
   else
    impl_isPrime.l0 x0 (IntKind.i64.wrap (x3 + 1))
 else
  some (decide (x0 > 1)) := (runAt_loop _ _ _ _ _ _).trans (by kernel_rfl)
noncomputable def impl_ofKind_1.g : Gam := []
theorem impl_ofKind_1.gok : GOkI Tryz.prog I impl_ofKind_1.g := GOkI.nil _ _
noncomputable def impl_ofKind_1.i : FI := ⟨Tryz.f139, body Tryz.f139, (.seq .nil (.seq .nil .nil)), [], [], [.res (.tmp 2) (.v (.int .i64))]⟩
noncomputable def impl_ofKind_1.sp : CSpec := mkSpec impl_ofKind_1.g T impl_ofKind_1.i
theorem impl_ofKind_1.ok : SpecOk Tryz.prog I 139 impl_ofKind_1.sp := mkSpec_ok hmix hI impl_ofKind_1.gok tok impl_ofKind_1.i Tryz.func139 (by kernel_rfl) (by kernel_rfl) (by kernel_rfl) (by kernel_rfl)
noncomputable def impl_ofKind_1.f (x0 : Int) : Option (Int) := run impl_ofKind_1.g T impl_ofKind_1.i [.v (.int .i64) x0]
theorem impl_ofKind_1.f.eq (x0 : Int) : impl_ofKind_1.f x0 =
 some (IntKind.i64.wrap (x0 * x0)) := by kernel_rfl
noncomputable def impl_ofKind_2.g : Gam := []
theorem impl_ofKind_2.gok : GOkI Tryz.prog I impl_ofKind_2.g := GOkI.nil _ _
noncomputable def impl_ofKind_2.i : FI := ⟨Tryz.f140, body Tryz.f140, (.seq .nil (.seq .nil .nil)), [], [], [.res (.tmp 2) (.v (.int .i64))]⟩
noncomputable def impl_ofKind_2.sp : CSpec := mkSpec impl_ofKind_2.g T impl_ofKind_2.i
theorem impl_ofKind_2.ok : SpecOk Tryz.prog I 140 impl_ofKind_2.sp := mkSpec_ok hmix hI impl_ofKind_2.gok tok impl_ofKind_2.i Tryz.func140 (by kernel_rfl) (by kernel_rfl) (by kernel_rfl) (by kernel_rfl)
noncomputable def impl_ofKind_2.f (x0 : Int) : Option (Int) := run impl_ofKind_2.g T impl_ofKind_2.i [.v (.int .i64) x0]
theorem impl_ofKind_2.f.eq (x0 : Int) : impl_ofKind_2.f x0 =
 some (IntKind.i64.wrap ((IntKind.i64.wrap (x0 * x0)) * x0)) := by kernel_rfl
noncomputable def impl_ofKind_3.g : Gam := []
theorem impl_ofKind_3.gok : GOkI Tryz.prog I impl_ofKind_3.g := GOkI.nil _ _
noncomputable def impl_ofKind_3.i : FI := ⟨Tryz.f141, body Tryz.f141, (.seq .nil (.seq .nil .nil)), [], [], [.res (.tmp 2) (.v (.int .i64))]⟩
noncomputable def impl_ofKind_3.sp : CSpec := mkSpec impl_ofKind_3.g T impl_ofKind_3.i
theorem impl_ofKind_3.ok : SpecOk Tryz.prog I 141 impl_ofKind_3.sp := mkSpec_ok hmix hI impl_ofKind_3.gok tok impl_ofKind_3.i Tryz.func141 (by kernel_rfl) (by kernel_rfl) (by kernel_rfl) (by kernel_rfl)
noncomputable def impl_ofKind_3.f (x0 : Int) : Option (Int) := run impl_ofKind_3.g T impl_ofKind_3.i [.v (.int .i64) x0]
theorem impl_ofKind_3.f.eq (x0 : Int) : impl_ofKind_3.f x0 =
 some (IntKind.i64.wrap ((IntKind.i64.wrap (x0 * (IntKind.i64.wrap (x0 + 1)))).tdiv 2)) := by kernel_rfl
noncomputable def impl_isMade.g : Gam := [(139, impl_ofKind_1.sp), (140, impl_ofKind_2.sp), (141, impl_ofKind_3.sp)]
theorem impl_isMade.gok : GOkI Tryz.prog I impl_isMade.g := (((GOkI.nil _ _).cons impl_ofKind_3.ok).cons impl_ofKind_2.ok).cons impl_ofKind_1.ok
noncomputable def impl_isMade.i : FI := ⟨Tryz.f138, body Tryz.f138, (.seq .nil (.seq .nil (.seq (.blk (.loop [0, 1, 5] [] (.seq (.seq .nil (.cond .nil .nil)) (.blk .nil)))) (.seq .nil .nil)))), [], [], [.res (.tmp 4) (.v .bool)]⟩
noncomputable def impl_isMade.sp : CSpec := mkSpec impl_isMade.g T impl_isMade.i
theorem impl_isMade.ok : SpecOk Tryz.prog I 138 impl_isMade.sp := mkSpec_ok hmix hI impl_isMade.gok tok impl_isMade.i Tryz.func138 (by kernel_rfl) (by kernel_rfl) (by kernel_rfl) (by kernel_rfl)
noncomputable def impl_isMade.f (x0 : Int) : Option (Bool) := run impl_isMade.g T impl_isMade.i [.v (.int .i64) x0, .clo (closure impl_ofKind_1.sp [])]
noncomputable def impl_isMade.l0 (x0 : Int) (x5 : Int) : Option (Bool) := runAt impl_isMade.g T impl_isMade.i [true, true, false, false] [(0, .val (.int .i64) x0), (1, .clo (closure impl_ofKind_1.sp [])), (5, .val (.int .i64) x5)] []
theorem impl_isMade.f.eq (x0 : Int) : impl_isMade.f x0 =
 impl_isMade.l0 x0 0 := by kernel_rfl
theorem impl_isMade.l0.eq (x0 : Int) (x5 : Int) : impl_isMade.l0 x0 x5 =
 ((impl_ofKind_1.f x5).bind some).bind fun y1 =>
 if (decide (y1 < x0)) = true then
  impl_isMade.l0 x0 (IntKind.i64.wrap (x5 + 1))
 else
  ((impl_ofKind_1.f x5).bind some).bind fun y4 =>
  some (y4 == x0) := (runAt_loop _ _ _ _ _ _).trans (by kernel_rfl)
noncomputable def impl_isMade_v1.f (x0 : Int) : Option (Bool) := run impl_isMade.g T impl_isMade.i [.v (.int .i64) x0, .clo (closure impl_ofKind_2.sp [])]
noncomputable def impl_isMade_v1.l0 (x0 : Int) (x5 : Int) : Option (Bool) := runAt impl_isMade.g T impl_isMade.i [true, true, false, false] [(0, .val (.int .i64) x0), (1, .clo (closure impl_ofKind_2.sp [])), (5, .val (.int .i64) x5)] []
theorem impl_isMade_v1.f.eq (x0 : Int) : impl_isMade_v1.f x0 =
 impl_isMade_v1.l0 x0 0 := by kernel_rfl
theorem impl_isMade_v1.l0.eq (x0 : Int) (x5 : Int) : impl_isMade_v1.l0 x0 x5 =
 ((impl_ofKind_2.f x5).bind some).bind fun y1 =>
 if (decide (y1 < x0)) = true then
  impl_isMade_v1.l0 x0 (IntKind.i64.wrap (x5 + 1))
 else
  ((impl_ofKind_2.f x5).bind some).bind fun y4 =>
  some (y4 == x0) := (runAt_loop _ _ _ _ _ _).trans (by kernel_rfl)
noncomputable def impl_isMade_v2.f (x0 : Int) : Option (Bool) := run impl_isMade.g T impl_isMade.i [.v (.int .i64) x0, .clo (closure impl_ofKind_3.sp [])]
noncomputable def impl_isMade_v2.l0 (x0 : Int) (x5 : Int) : Option (Bool) := runAt impl_isMade.g T impl_isMade.i [true, true, false, false] [(0, .val (.int .i64) x0), (1, .clo (closure impl_ofKind_3.sp [])), (5, .val (.int .i64) x5)] []
theorem impl_isMade_v2.f.eq (x0 : Int) : impl_isMade_v2.f x0 =
 impl_isMade_v2.l0 x0 0 := by kernel_rfl
theorem impl_isMade_v2.l0.eq (x0 : Int) (x5 : Int) : impl_isMade_v2.l0 x0 x5 =
 ((impl_ofKind_3.f x5).bind some).bind fun y1 =>
 if (decide (y1 < x0)) = true then
  impl_isMade_v2.l0 x0 (IntKind.i64.wrap (x5 + 1))
 else
  ((impl_ofKind_3.f x5).bind some).bind fun y4 =>
  some (y4 == x0) := (runAt_loop _ _ _ _ _ _).trans (by kernel_rfl)
noncomputable def impl_areAlike.g : Gam := []
theorem impl_areAlike.gok : GOkI Tryz.prog I impl_areAlike.g := GOkI.nil _ _
noncomputable def impl_areAlike.i : FI := ⟨Tryz.f142, body Tryz.f142, (.seq .nil (.seq (.seq .nil (.blk (.loop [0, 3] [] (.seq (.seq .nil (.cond .nil .nil)) (.seq (.blk (.seq .nil (.cond (.seq .nil .nil) .nil))) .nil))))) (.seq .nil .nil))), [], [], [.res (.tmp 2) (.v .bool)]⟩
noncomputable def impl_areAlike.sp : CSpec := mkSpec impl_areAlike.g T impl_areAlike.i
theorem impl_areAlike.ok : SpecOk Tryz.prog I 142 impl_areAlike.sp := mkSpec_ok hmix hI impl_areAlike.gok tok impl_areAlike.i Tryz.func142 (by kernel_rfl) (by kernel_rfl) (by kernel_rfl) (by kernel_rfl)
noncomputable def impl_areAlike.f (x0 : Int) : Option (Bool) := run impl_areAlike.g T impl_areAlike.i [.v (.int .i64) x0]
noncomputable def impl_areAlike.l0 (x0 : Int) (x3 : Int) : Option (Bool) := runAt impl_areAlike.g T impl_areAlike.i [true, false, true, false] [(0, .val (.int .i64) x0), (3, .val (.int .i64) x3)] []
theorem impl_areAlike.f.eq (x0 : Int) : impl_areAlike.f x0 =
 impl_areAlike.l0 x0 x0 := by kernel_rfl
theorem impl_areAlike.l0.eq (x0 : Int) (x3 : Int) : impl_areAlike.l0 x0 x3 =
 if (decide (x3 ≥ 10)) = true then
  if ((x3.tmod 10) != ((IntKind.i64.wrap (x3.tdiv 10)).tmod 10)) = true then
   some false
  else
   impl_areAlike.l0 x0 (IntKind.i64.wrap (x3.tdiv 10))
 else
  some (decide (x0 ≥ 10)) := (runAt_loop _ _ _ _ _ _).trans (by kernel_rfl)
noncomputable def impl_ofKind.g : Gam := [(137, impl_isPrime.sp), (138, impl_isMade.sp), (142, impl_areAlike.sp), (139, impl_ofKind_1.sp), (140, impl_ofKind_2.sp), (141, impl_ofKind_3.sp)]
theorem impl_ofKind.gok : GOkI Tryz.prog I impl_ofKind.g := ((((((GOkI.nil _ _).cons impl_ofKind_3.ok).cons impl_ofKind_2.ok).cons impl_ofKind_1.ok).cons impl_areAlike.ok).cons impl_isMade.ok).cons impl_isPrime.ok
noncomputable def impl_ofKind.i : FI := ⟨Tryz.f119, body Tryz.f119, (.seq .nil (.seq (.seq .nil (.blk (.seq .nil (.cond (.seq .nil .nil) (.seq .nil (.cond (.seq .nil .nil) (.seq .nil (.cond (.seq .nil .nil) (.seq .nil (.cond (.seq .nil .nil) (.seq .nil (.cond (.seq .nil .nil) .nil)))))))))))) (.seq .nil .nil))), [], [], [.res (.tmp 4) (.v .bool)]⟩
noncomputable def impl_ofKind.sp : CSpec := mkSpec impl_ofKind.g T impl_ofKind.i
theorem impl_ofKind.ok : SpecOk Tryz.prog I 119 impl_ofKind.sp := mkSpec_ok hmix hI impl_ofKind.gok tok impl_ofKind.i Tryz.func119 (by kernel_rfl) (by kernel_rfl) (by kernel_rfl) (by kernel_rfl)
noncomputable def impl_ofKind.f (x0 : Int) (x1 : List UInt8) : Option (Bool) := run impl_ofKind.g T impl_ofKind.i [.v (.int .i64) x0, .v .str x1]
theorem impl_ofKind.f.eq (x0 : Int) (x1 : List UInt8) : impl_ofKind.f x0 x1 =
 if (x1 == [112]) = true then
  (impl_isPrime.f x0).bind fun y2 =>
  some y2
 else
  if (x1 == [115]) = true then
   (impl_isMade.f x0).bind fun y4 =>
   some y4
  else
   if (x1 == [99]) = true then
    (impl_isMade_v1.f x0).bind fun y6 =>
    some y6
   else
    if (x1 == [116]) = true then
     (impl_isMade_v2.f x0).bind fun y8 =>
     some y8
    else
     if (x1 == [100]) = true then
      (impl_areAlike.f x0).bind fun y10 =>
      some y10
     else
      if (decide (x0 ≥ 10)) = true then
       some (if true = true then (x0.tmod 10) == 0 else false)
      else
       some false := by kernel_rfl
noncomputable def impl_countOf.g : Gam := [(119, impl_ofKind.sp)]
theorem impl_countOf.gok : GOkI Tryz.prog I impl_countOf.g := (GOkI.nil _ _).cons impl_ofKind.ok
noncomputable def impl_countOf.i : FI := ⟨Tryz.f101, body Tryz.f101, (.seq .nil (.seq .nil (.seq (.seq .nil (.blk (.loop [1, 5, 8, 9, 10] [] (.seq .nil (.seq (.cond .nil .nil) (.seq (.blk (.seq .nil (.seq .nil (.cond .nil .nil)))) .nil)))))) (.seq .nil .nil)))), [], [], [.res (.tmp 4) (.v (.int .i64))]⟩
noncomputable def impl_countOf.sp : CSpec := mkSpec impl_countOf.g T impl_countOf.i
theorem impl_countOf.ok : SpecOk Tryz.prog I 101 impl_countOf.sp := mkSpec_ok hmix hI impl_countOf.gok tok impl_countOf.i Tryz.func101 (by kernel_rfl) (by kernel_rfl) (by kernel_rfl) (by kernel_rfl)
noncomputable def impl_countOf.f (x0 : List Int) (x1 : List UInt8) : Option (Int) := run impl_countOf.g T impl_countOf.i [.v (.slice (.int .i64)) x0, .v .str x1]
noncomputable def impl_countOf.l0 (x1 : List UInt8) (x5 : Int) (x8 : List Int) (x9 : Int) (x10 : Int) : Option (Int) := runAt impl_countOf.g T impl_countOf.i [true, true, false, true, false] [(1, .val .str x1), (5, .val (.int .i64) x5), (8, .val (.slice (.int .i64)) x8), (9, .val (.int .i64) x9), (10, .val (.int .i64) x10)] []
theorem impl_countOf.f.eq (x0 : List Int) (x1 : List UInt8) : impl_countOf.f x0 x1 =
 impl_countOf.l0 x1 0 x0 (x0.length : Int) 0 := by kernel_rfl
theorem impl_countOf.l0.eq (x1 : List UInt8) (x5 : Int) (x8 : List Int) (x9 : Int) (x10 : Int) : impl_countOf.l0 x1 x5 x8 x9 x10 =
 if (decide (x10 < x9)) = true then
  (rdI x8 x10).bind fun y2 =>
  (impl_ofKind.f y2 x1).bind fun y3 =>
  if y3 = true then
   impl_countOf.l0 x1 (IntKind.i64.wrap (x5 + 1)) x8 x9 (IntKind.i64.wrap (x10 + 1))
  else
   impl_countOf.l0 x1 x5 x8 x9 (IntKind.i64.wrap (x10 + 1))
 else
  some x5 := (runAt_loop _ _ _ _ _ _).trans (by kernel_rfl)
noncomputable def impl_inYears.g : Gam := []
theorem impl_inYears.gok : GOkI Tryz.prog I impl_inYears.g := GOkI.nil _ _
noncomputable def impl_inYears.i : FI := ⟨Tryz.f102, body Tryz.f102, (.seq .nil (.seq .nil (.seq (.seq .nil (.blk (.loop [1, 5, 9, 10, 11] [] (.seq .nil (.seq (.cond .nil .nil) (.seq (.blk (.seq .nil .nil)) .nil)))))) (.seq .nil .nil)))), [], [], [.res (.tmp 4) (.own 3 (.int .i64))]⟩
noncomputable def impl_inYears.sp : CSpec := mkSpec impl_inYears.g T impl_inYears.i
theorem impl_inYears.ok : SpecOk Tryz.prog I 102 impl_inYears.sp := mkSpec_ok hmix hI impl_inYears.gok tok impl_inYears.i Tryz.func102 (by kernel_rfl) (by kernel_rfl) (by kernel_rfl) (by kernel_rfl)
noncomputable def impl_inYears.f (x0 : List Int) (x1 : Int) : Option (List Int) := run impl_inYears.g T impl_inYears.i [.v (.slice (.int .i64)) x0, .v (.int .i64) x1]
noncomputable def impl_inYears.l0 (x1 : Int) (x5 : List Int) (x9 : List Int) (x10 : Int) (x11 : Int) : Option (List Int) := runAt impl_inYears.g T impl_inYears.i [true, true, false, true, false] [(1, .val (.int .i64) x1), (5, .own 3 (.int .i64) x5), (9, .val (.slice (.int .i64)) x9), (10, .val (.int .i64) x10), (11, .val (.int .i64) x11)] []
theorem impl_inYears.f.eq (x0 : List Int) (x1 : Int) : impl_inYears.f x0 x1 =
 impl_inYears.l0 x1 [] x0 (x0.length : Int) 0 := by kernel_rfl
theorem impl_inYears.l0.eq (x1 : Int) (x5 : List Int) (x9 : List Int) (x10 : Int) (x11 : Int) : impl_inYears.l0 x1 x5 x9 x10 x11 =
 if (decide (x11 < x10)) = true then
  (rdI x9 x11).bind fun y2 =>
  (catI (appMax 8) x5 [(IntKind.i64.wrap (y2 + x1))]).bind fun y4 =>
  impl_inYears.l0 x1 y4 x9 x10 (IntKind.i64.wrap (x11 + 1))
 else
  some x5 := (runAt_loop _ _ _ _ _ _).trans (by kernel_rfl)
noncomputable def impl_tells.g : Gam := [(98, impl_total.sp), (99, impl_productOf.sp), (100, impl_bit.sp), (101, impl_countOf.sp), (102, impl_inYears.sp)]
theorem impl_tells.gok : GOkI Tryz.prog I impl_tells.g := (((((GOkI.nil _ _).cons impl_inYears.ok).cons impl_countOf.ok).cons impl_bit.ok).cons impl_productOf.ok).cons impl_total.ok
noncomputable def impl_tells.i : FI := ⟨Tryz.f80, body Tryz.f80, (.seq .nil (.seq .nil (.seq (.seq .nil (.blk (.seq .nil (.cond (.seq .nil .nil) (.seq .nil (.cond (.seq .nil .nil) (.seq .nil (.cond (.seq .nil .nil) (.seq .nil (.cond (.seq .nil .nil) (.seq .nil (.cond (.seq .nil .nil) (.seq .nil (.cond (.seq .nil .nil) .nil)))))))))))))) (.seq .nil .nil)))), [], [], [.res (.tmp 6) (.v (.int .i64))]⟩
noncomputable def impl_tells.sp : CSpec := mkSpec impl_tells.g T impl_tells.i
theorem impl_tells.ok : SpecOk Tryz.prog I 80 impl_tells.sp := mkSpec_ok hmix hI impl_tells.gok tok impl_tells.i Tryz.func80 (by kernel_rfl) (by kernel_rfl) (by kernel_rfl) (by kernel_rfl)
noncomputable def impl_tells.f (x0 : Int) (x1 : Int) (x2 : List Int) : Option (Int) := run impl_tells.g T impl_tells.i [.v (.int .i64) x0, .v (.int .i64) x1, .v (.slice (.int .i64)) x2]
theorem impl_tells.f.eq (x0 : Int) (x1 : Int) (x2 : List Int) : impl_tells.f x0 x1 x2 =
 if (x2.length : Int) = 0 then
  none
 else
  (rdI x2 ((IntKind.i64.wrap (x1 + 1)).tmod (x2.length : Int))).bind fun y4 =>
  if (x0 == 0) = true then
   (impl_total.f x2).bind fun y5 =>
   some y5
  else
   if (x0 == 1) = true then
    (rdI x2 x1).bind fun y6 =>
    some y6
   else
    if (x0 == 2) = true then
     (impl_productOf.f x2).bind fun y7 =>
     some y7
    else
     if (x0 == 3) = true then
      (rdI x2 x1).bind fun y8 =>
      (impl_bit.f (decide (y8 > y4))).bind fun y10 =>
      some y10
     else
      if (x0 == 4) = true then
       (impl_countOf.f x2 [112]).bind fun y11 =>
       some y11
      else
       if (x0 == 5) = true then
        (rdI x2 x1).bind fun y12 =>
        if y4 = 0 then
         none
        else
         (impl_bit.f ((y12.tmod y4) == 0)).bind fun y14 =>
         some y14
       else
        (impl_inYears.f x2 x1).bind fun y15 =>
        (impl_total.f y15).bind fun y16 =>
        some y16 := by kernel_rfl
noncomputable def impl_Clue_fits.g : Gam := [(80, impl_tells.sp)]
theorem impl_Clue_fits.gok : GOkI Tryz.prog I impl_Clue_fits.g := (GOkI.nil _ _).cons impl_tells.ok
noncomputable def impl_Clue_fits.i : FI := ⟨Tryz.f56, body Tryz.f56, (.seq .nil (.seq .nil (.seq (.seq .nil (.cond (.seq .nil .nil) .nil)) (.seq .nil .nil)))), [], [], [.res (.tmp 4) (.v .bool)]⟩
noncomputable def impl_Clue_fits.sp : CSpec := mkSpec impl_Clue_fits.g T impl_Clue_fits.i
theorem impl_Clue_fits.ok : SpecOk Tryz.prog I 56 impl_Clue_fits.sp := mkSpec_ok hmix hI impl_Clue_fits.gok tok impl_Clue_fits.i Tryz.func56 (by kernel_rfl) (by kernel_rfl) (by kernel_rfl) (by kernel_rfl)
noncomputable def impl_Clue_fits.f (x0 : Int × Int × Int) (x1 : List Int) : Option (Bool) := run impl_Clue_fits.g T impl_Clue_fits.i [.v (.pair (.int .i64) (.pair (.int .i64) (.int .i64))) x0, .v (.slice (.int .i64)) x1]
theorem impl_Clue_fits.f.eq (x0 : Int × Int × Int) (x1 : List Int) : impl_Clue_fits.f x0 x1 =
 (impl_tells.f x0.1 x0.2.1 x1).bind fun y1 =>
 if (x0.1 == 6) = true then
  if x0.2.2 = 0 then
   none
  else
   some ((y1.tmod x0.2.2) == 0)
 else
  some (y1 == x0.2.2) := by kernel_rfl
noncomputable def impl_solutions_1_1.g : Gam := [(56, impl_Clue_fits.sp)]
theorem impl_solutions_1_1.gok : GOkI Tryz.prog I impl_solutions_1_1.g := (GOkI.nil _ _).cons impl_Clue_fits.ok
noncomputable def impl_solutions_1_1.i : FI := ⟨Tryz.f70, body Tryz.f70, (.seq .nil (.seq .nil .nil)), [], [], [.res (.tmp 3) (.v .bool)]⟩
noncomputable def impl_solutions_1_1.sp : CSpec := mkSpec impl_solutions_1_1.g T impl_solutions_1_1.i
theorem impl_solutions_1_1.ok : SpecOk Tryz.prog I 70 impl_solutions_1_1.sp := mkSpec_ok hmix hI impl_solutions_1_1.gok tok impl_solutions_1_1.i Tryz.func70 (by kernel_rfl) (by kernel_rfl) (by kernel_rfl) (by kernel_rfl)
noncomputable def impl_solutions_1_1.f (x0 : Int × Int × Int) (x1 : List Int) : Option (Bool) := run impl_solutions_1_1.g T impl_solutions_1_1.i [.v (.pair (.int .i64) (.pair (.int .i64) (.int .i64))) x0, .cr (.slice (.int .i64)) x1]
theorem impl_solutions_1_1.f.eq (x0 : Int × Int × Int) (x1 : List Int) : impl_solutions_1_1.f x0 x1 =
 (impl_Clue_fits.f (x0.1, x0.2.1, x0.2.2) x1).bind fun y1 =>
 some (!y1) := by kernel_rfl
noncomputable def slices_IndexFunc.g : Gam := [(51, impl_IsPuzzle_1.sp), (70, impl_solutions_1_1.sp)]
theorem slices_IndexFunc.gok : GOkI Tryz.prog I slices_IndexFunc.g := ((GOkI.nil _ _).cons impl_solutions_1_1.ok).cons impl_IsPuzzle_1.ok
noncomputable def slices_IndexFunc.i : FI := ⟨Tryz.f77, body Tryz.f77, (.seq .nil (.seq (.seq .nil (.blk (.loop [0, 1, 7, 8] [] (.seq .nil (.seq (.cond .nil .nil) (.seq (.blk (.seq .nil (.seq .nil (.cond (.seq .nil .nil) .nil)))) .nil)))))) (.seq .nil .nil))), [], [], [.res (.tmp 4) (.v (.int .i64))]⟩
noncomputable def slices_IndexFunc.sp : CSpec := mkSpec slices_IndexFunc.g T slices_IndexFunc.i
theorem slices_IndexFunc.ok : SpecOk Tryz.prog I 77 slices_IndexFunc.sp := mkSpec_ok hmix hI slices_IndexFunc.gok tok slices_IndexFunc.i Tryz.func77 (by kernel_rfl) (by kernel_rfl) (by kernel_rfl) (by kernel_rfl)
noncomputable def slices_IndexFunc.f (x0 : List (Int × Int × Int)) (x1_0 : Int × (List (Int × Int × Int))) : Option (Int) := run slices_IndexFunc.g T slices_IndexFunc.i [.v (.slice (.pair (.int .i64) (.pair (.int .i64) (.int .i64)))) x0, .clo (closure impl_IsPuzzle_1.sp [.cr (.pair (.int .i64) (.slice (.pair (.int .i64) (.pair (.int .i64) (.int .i64))))) x1_0])]
noncomputable def slices_IndexFunc.l0 (x0 : List (Int × Int × Int)) (x1_0 : Int × (List (Int × Int × Int))) (x7 : Int) (x8 : Int) : Option (Int) := runAt slices_IndexFunc.g T slices_IndexFunc.i [true, false, true, false] [(0, .val (.slice (.pair (.int .i64) (.pair (.int .i64) (.int .i64)))) x0), (1, .clo (closure impl_IsPuzzle_1.sp [.cr (.pair (.int .i64) (.slice (.pair (.int .i64) (.pair (.int .i64) (.int .i64))))) x1_0])), (7, .val (.int .i64) x7), (8, .val (.int .i64) x8)] []
theorem slices_IndexFunc.f.eq (x0 : List (Int × Int × Int)) (x1_0 : Int × (List (Int × Int × Int))) : slices_IndexFunc.f x0 x1_0 =
 slices_IndexFunc.l0 x0 x1_0 (x0.length : Int) 0 := by kernel_rfl
theorem slices_IndexFunc.l0.eq (x0 : List (Int × Int × Int)) (x1_0 : Int × (List (Int × Int × Int))) (x7 : Int) (x8 : Int) : slices_IndexFunc.l0 x0 x1_0 x7 x8 =
 if (decide (x8 < x7)) = true then
  (rdI x0 x8).bind fun y2 =>
  ((impl_IsPuzzle_1.f y2 x1_0).bind some).bind fun y3 =>
  if y3 = true then
   some x8
  else
   slices_IndexFunc.l0 x0 x1_0 x7 (IntKind.i64.wrap (x8 + 1))
 else
  some (-1) := (runAt_loop _ _ _ _ _ _).trans (by kernel_rfl)
noncomputable def slices_IndexFunc_v1.f (x0 : List (Int × Int × Int)) (x1_0 : List Int) : Option (Int) := run slices_IndexFunc.g T slices_IndexFunc.i [.v (.slice (.pair (.int .i64) (.pair (.int .i64) (.int .i64)))) x0, .clo (closure impl_solutions_1_1.sp [.cr (.slice (.int .i64)) x1_0])]
noncomputable def slices_IndexFunc_v1.l0 (x0 : List (Int × Int × Int)) (x1_0 : List Int) (x7 : Int) (x8 : Int) : Option (Int) := runAt slices_IndexFunc.g T slices_IndexFunc.i [true, false, true, false] [(0, .val (.slice (.pair (.int .i64) (.pair (.int .i64) (.int .i64)))) x0), (1, .clo (closure impl_solutions_1_1.sp [.cr (.slice (.int .i64)) x1_0])), (7, .val (.int .i64) x7), (8, .val (.int .i64) x8)] []
theorem slices_IndexFunc_v1.f.eq (x0 : List (Int × Int × Int)) (x1_0 : List Int) : slices_IndexFunc_v1.f x0 x1_0 =
 slices_IndexFunc_v1.l0 x0 x1_0 (x0.length : Int) 0 := by kernel_rfl
theorem slices_IndexFunc_v1.l0.eq (x0 : List (Int × Int × Int)) (x1_0 : List Int) (x7 : Int) (x8 : Int) : slices_IndexFunc_v1.l0 x0 x1_0 x7 x8 =
 if (decide (x8 < x7)) = true then
  (rdI x0 x8).bind fun y2 =>
  ((impl_solutions_1_1.f y2 x1_0).bind some).bind fun y3 =>
  if y3 = true then
   some x8
  else
   slices_IndexFunc_v1.l0 x0 x1_0 x7 (IntKind.i64.wrap (x8 + 1))
 else
  some (-1) := (runAt_loop _ _ _ _ _ _).trans (by kernel_rfl)
noncomputable def slices_ContainsFunc.g : Gam := [(77, slices_IndexFunc.sp)]
theorem slices_ContainsFunc.gok : GOkI Tryz.prog I slices_ContainsFunc.g := (GOkI.nil _ _).cons slices_IndexFunc.ok
noncomputable def slices_ContainsFunc.i : FI := ⟨Tryz.f50, body Tryz.f50, (.seq .nil (.seq .nil .nil)), [], [], [.res (.tmp 4) (.v .bool)]⟩
noncomputable def slices_ContainsFunc.sp : CSpec := mkSpec slices_ContainsFunc.g T slices_ContainsFunc.i
theorem slices_ContainsFunc.ok : SpecOk Tryz.prog I 50 slices_ContainsFunc.sp := mkSpec_ok hmix hI slices_ContainsFunc.gok tok slices_ContainsFunc.i Tryz.func50 (by kernel_rfl) (by kernel_rfl) (by kernel_rfl) (by kernel_rfl)
noncomputable def slices_ContainsFunc.f (x0 : List (Int × Int × Int)) (x1_0 : Int × (List (Int × Int × Int))) : Option (Bool) := run slices_ContainsFunc.g T slices_ContainsFunc.i [.v (.slice (.pair (.int .i64) (.pair (.int .i64) (.int .i64)))) x0, .clo (closure impl_IsPuzzle_1.sp [.cr (.pair (.int .i64) (.slice (.pair (.int .i64) (.pair (.int .i64) (.int .i64))))) x1_0])]
theorem slices_ContainsFunc.f.eq (x0 : List (Int × Int × Int)) (x1_0 : Int × (List (Int × Int × Int))) : slices_ContainsFunc.f x0 x1_0 =
 (slices_IndexFunc.f x0 x1_0).bind fun y1 =>
 some (decide (y1 ≥ 0)) := by kernel_rfl
noncomputable def slices_ContainsFunc_v1.f (x0 : List (Int × Int × Int)) (x1_0 : List Int) : Option (Bool) := run slices_ContainsFunc.g T slices_ContainsFunc.i [.v (.slice (.pair (.int .i64) (.pair (.int .i64) (.int .i64)))) x0, .clo (closure impl_solutions_1_1.sp [.cr (.slice (.int .i64)) x1_0])]
theorem slices_ContainsFunc_v1.f.eq (x0 : List (Int × Int × Int)) (x1_0 : List Int) : slices_ContainsFunc_v1.f x0 x1_0 =
 (slices_IndexFunc_v1.f x0 x1_0).bind fun y1 =>
 some (decide (y1 ≥ 0)) := by kernel_rfl
noncomputable def impl_IsPuzzle.g : Gam := [(49, impl_between.sp), (50, slices_ContainsFunc.sp), (51, impl_IsPuzzle_1.sp)]
theorem impl_IsPuzzle.gok : GOkI Tryz.prog I impl_IsPuzzle.g := (((GOkI.nil _ _).cons impl_IsPuzzle_1.ok).cons slices_ContainsFunc.ok).cons impl_between.ok
noncomputable def impl_IsPuzzle.i : FI := ⟨Tryz.f26, body Tryz.f26, (.seq .nil (.seq .nil .nil)), [], [], [.res (.tmp 2) (.v .bool)]⟩
noncomputable def impl_IsPuzzle.sp : CSpec := mkSpec impl_IsPuzzle.g T impl_IsPuzzle.i
theorem impl_IsPuzzle.ok : SpecOk Tryz.prog I 26 impl_IsPuzzle.sp := mkSpec_ok hmix hI impl_IsPuzzle.gok tok impl_IsPuzzle.i Tryz.func26 (by kernel_rfl) (by kernel_rfl) (by kernel_rfl) (by kernel_rfl)
noncomputable def impl_IsPuzzle.f (x0 : Int × (List (Int × Int × Int))) : Option (Bool) := run impl_IsPuzzle.g T impl_IsPuzzle.i [.v (.pair (.int .i64) (.slice (.pair (.int .i64) (.pair (.int .i64) (.int .i64))))) x0]
theorem impl_IsPuzzle.f.eq (x0 : Int × (List (Int × Int × Int))) : impl_IsPuzzle.f x0 =
 (impl_between.f x0.1 2 3).bind fun y1 =>
 if y1 = true then
  if (if true = true then (decide ((x0.2.length : Int) ≤ 6)) else false) = true then
   (slices_ContainsFunc.f x0.2 (x0.1, x0.2)).bind fun y5 =>
   some (if true = true then !y5 else false)
  else
   some false
 else
  some false := by kernel_rfl
noncomputable def slices_Clone.g : Gam := []
theorem slices_Clone.gok : GOkI Tryz.prog I slices_Clone.g := GOkI.nil _ _
noncomputable def slices_Clone.i : FI := ⟨Tryz.f41, body Tryz.f41, (.seq .nil (.seq (.seq .nil (.cond (.seq .nil .nil) .nil)) (.seq .nil .nil))), [], [], [.res (.tmp 2) (.own 3 (.int .i64))]⟩
noncomputable def slices_Clone.sp : CSpec := mkSpecN slices_Clone.g T slices_Clone.i
theorem slices_Clone.ok : SpecOk Tryz.prog I 41 slices_Clone.sp := mkSpecN_ok hI slices_Clone.gok tok slices_Clone.i Tryz.func41 (by kernel_rfl) (by kernel_rfl) (by kernel_rfl) (by kernel_rfl)
noncomputable def slices_Clone.f (x0 : List Int) : Option (List Int) := Go.Proofs.YtecdijlfnnminaaGreatDoor.Eng.runN slices_Clone.g T slices_Clone.i [.v (.slice (.int .i64)) x0]
theorem slices_Clone.f.eq (x0 : List Int) : slices_Clone.f x0 =
 nilT x0 (
  some []) (
  (catI (appMax 8) [] x0).bind fun y1 =>
  some y1) := by kernel_rfl
noncomputable def impl_solutions_1.g : Gam := [(41, slices_Clone.sp), (50, slices_ContainsFunc.sp), (70, impl_solutions_1_1.sp)]
theorem impl_solutions_1.gok : GOkI Tryz.prog I impl_solutions_1.g := (((GOkI.nil _ _).cons impl_solutions_1_1.ok).cons slices_ContainsFunc.ok).cons slices_Clone.ok
noncomputable def impl_solutions_1.i : FI := ⟨Tryz.f69, body Tryz.f69, (.seq .nil (.seq (.seq .nil (.cond (.seq (.seq .nil (.blk (.loop [2, 5, 6] [5, 1000001, 1000003, 1000004] (.seq (.seq .nil (.cond .nil .nil)) (.seq (.blk .nil) .nil))))) .nil) .nil)) (.seq .nil (.cond .nil .nil)))), [], [1000001, 1000003, 1000004], [.box 1000001 0 (.v (.int .i64)), .box 1000003 0 (.v (.slice (.pair (.int .i64) (.pair (.int .i64) (.int .i64))))), .box 1000004 0 (.own 33 (.slice (.int .i64)))]⟩
noncomputable def impl_solutions_1.sp : CSpec := limSpec impl_solutions_1.g T impl_solutions_1.i 69
theorem impl_solutions_1.ok : SpecOk Tryz.prog I 69 impl_solutions_1.sp := limSpec_ok hmix hI impl_solutions_1.gok tok impl_solutions_1.i Tryz.func69 (by kernel_rfl) (by kernel_rfl) (by kernel_rfl) (by kernel_rfl)
noncomputable def impl_solutions_1.r (k : Nat) (x0 : List Int) (x1_0 : Int) (x3_0 : List (Int × Int × Int)) (x4_0 : List (List Int)) : Option (Int × (List (Int × Int × Int)) × (List (List Int))) := recO impl_solutions_1.g T impl_solutions_1.i 69 k [.v (.slice (.int .i64)) x0, .bx [⟨(.int .i64), x1_0⟩], .fp 82 69 [some 1000001, none, some 1000003, some 1000004], .bx [⟨(.slice (.pair (.int .i64) (.pair (.int .i64) (.int .i64)))), x3_0⟩], .bx [ownV 33 (.slice (.int .i64)) x4_0]]
noncomputable def impl_solutions_1.f (x0 : List Int) (x1_0 : Int) (x3_0 : List (Int × Int × Int)) (x4_0 : List (List Int)) : Option (Int × (List (Int × Int × Int)) × (List (List Int))) := lim fun k => impl_solutions_1.r k x0 x1_0 x3_0 x4_0
noncomputable def impl_solutions_1.l0 (k : Nat) (x6 : Int) (xb5_0 : List Int) (x1_0 : Int) (x3_0 : List (Int × Int × Int)) (x4_0 : List (List Int)) : Option (Int × (List (Int × Int × Int)) × (List (List Int))) := runAt ((69, recSpec impl_solutions_1.g T impl_solutions_1.i 69 k) :: impl_solutions_1.g) T impl_solutions_1.i [true, false, true, false, false, true, false] [(2, .fp 82 69 [some 1000001, none, some 1000003, some 1000004]), (5, .ptr 5 0), (6, .val (.int .i64) x6)] [(5, [⟨(.slice (.int .i64)), xb5_0⟩]), (1000001, [⟨(.int .i64), x1_0⟩]), (1000003, [⟨(.slice (.pair (.int .i64) (.pair (.int .i64) (.int .i64)))), x3_0⟩]), (1000004, [ownV 33 (.slice (.int .i64)) x4_0])]
theorem impl_solutions_1.r.eq (k : Nat) (x0 : List Int) (x1_0 : Int) (x3_0 : List (Int × Int × Int)) (x4_0 : List (List Int)) : impl_solutions_1.r (k + 1) x0 x1_0 x3_0 x4_0 =
 if (decide ((x0.length : Int) < x1_0)) = true then
  impl_solutions_1.l0 k 1 x0 x1_0 x3_0 x4_0
 else
  (slices_ContainsFunc_v1.f x3_0 x0).bind fun y6 =>
  if (!y6) = true then
   (catI (appMax 24) x4_0 [x0]).bind fun y7 =>
   some (x1_0, x3_0, y7)
  else
   some (x1_0, x3_0, x4_0) := by kernel_rfl
theorem impl_solutions_1.l0.eq (k : Nat) (x6 : Int) (xb5_0 : List Int) (x1_0 : Int) (x3_0 : List (Int × Int × Int)) (x4_0 : List (List Int)) : impl_solutions_1.l0 k x6 xb5_0 x1_0 x3_0 x4_0 =
 if (decide (x6 ≤ 12)) = true then
  (slices_Clone.f xb5_0).bind fun y2 =>
  (catI (appMax 8) y2 [x6]).bind fun y3 =>
  (impl_solutions_1.r k y3 x1_0 x3_0 x4_0).bind fun y4 =>
  impl_solutions_1.l0 k (IntKind.i64.wrap (x6 + 1)) xb5_0 y4.1 y4.2.1 y4.2.2
 else
  some (x1_0, x3_0, x4_0) := (runAt_loop _ _ _ _ _ _).trans (by kernel_rfl)
section
open Go.RowKit
/-! ### impl.solutions: a list that is filled by a function value that calls itself -/
noncomputable def impl_solutions.f (a : Int) (cl : List (Int × Int × Int)) : Option (List (List Int)) := (impl_solutions_1.f [] a cl []).map fun y => y.2.2
noncomputable def impl_solutions.sp : CSpec := spec2 (.int .i64) (.slice (.pair (.int .i64) (.pair (.int .i64) (.int .i64)))) impl_solutions.f (fun r => [.own 33 (.slice (.int .i64)) r])
theorem sol_loads : LoadsOne Tryz.prog 82 := fun w ad v h => by
 have hb : (isAgg 82).run Tryz.prog w = .ok false w := by kernel_rfl
 unfold loadVar
 rw [Sem.run_bind, hb, Result.andThen_ok]
 simp only [Bool.false_eq_true, if_false, run_load, h]
/-- The world when the function value lies in its box. -/
def solW (w : World) (a : Int) (v x : Value) : World := (((((w.alloc (.cells #[.int .i64 a] 3)).alloc (.cells #[v] 24)).alloc (.cells #[] 33)).alloc (.cells #[.slice (some ⟨w.heap.size + 1 + 1, 0, none⟩) 0 0] 28)).alloc (.cells #[x] 82))
def solF (w : World) : Value := .func (.func 69) #[] #[.pointer (some ⟨w.heap.size, 0, none⟩), .pointer (some ⟨w.heap.size + 1 + 1 + 1 + 1, 0, none⟩), .pointer (some ⟨w.heap.size + 1, 0, none⟩), .pointer (some ⟨w.heap.size + 1 + 1 + 1, 0, none⟩)]
structure SolAt (w : World) (a : Int) (v : Value) (W : World) : Prop where
 os : W.os = w.os
 tape : W.tape = w.tape
 output : W.output = w.output
 size : W.heap.size = w.heap.size + 5
 old : ∀ k, k < w.heap.size → W.heap[k]? = w.heap[k]?
 h0 : W.heap[w.heap.size]? = some (.cells #[.int .i64 a] 3 (0, 0))
 h1 : W.heap[w.heap.size + 1]? = some (.cells #[v] 24 (0, 0))
 h2 : W.heap[w.heap.size + 1 + 1]? = some (.cells #[] 33 (0, 0))
 h3 : W.heap[w.heap.size + 1 + 1 + 1]? = some (.cells #[.slice (some ⟨w.heap.size + 1 + 1, 0, none⟩) 0 0] 28 (0, 0))
 h4 : W.heap[w.heap.size + 1 + 1 + 1 + 1]? = some (.cells #[solF w] 82 (0, 0))
theorem alloc_keep {w : World} {o x : Obj} {k : Nat} (h : w.heap[k]? = some x) : (w.alloc o).heap[k]? = some x := by
 have hk := (Array.getElem?_eq_some_iff.1 h).1
 show (w.heap.push o)[k]? = some x
 rw [Array.getElem?_push, if_neg (by omega)]
 exact h
theorem alloc_old {w : World} {o : Obj} {k : Nat} (h : k < w.heap.size) : (w.alloc o).heap[k]? = w.heap[k]? := by
 show (w.heap.push o)[k]? = _
 rw [Array.getElem?_push, if_neg (by omega)]
theorem alloc_at {w : World} {o : Obj} {k : Nat} (h : k = w.heap.size) : (w.alloc o).heap[k]? = some o := by
 show (w.heap.push o)[k]? = _
 rw [Array.getElem?_push, if_pos h]
theorem alloc_size (w : World) (o : Obj) : (w.alloc o).heap.size = w.heap.size + 1 := Array.size_push ..
theorem solAt (w : World) (a : Int) (v : Value) : SolAt w a v (solW w a v (solF w)) := by
 unfold solW
 generalize h1 : w.alloc (.cells #[.int .i64 a] 3) = w1
 generalize h2 : w1.alloc (.cells #[v] 24) = w2
 generalize h3 : w2.alloc (.cells #[] 33) = w3
 generalize h4 : w3.alloc (.cells #[.slice (some ⟨w.heap.size + 1 + 1, 0, none⟩) 0 0] 28) = w4
 generalize h5 : w4.alloc (.cells #[solF w] 82) = w5
 have s1 : w1.heap.size = w.heap.size + 1 := by rw [← h1, alloc_size]
 have s2 : w2.heap.size = w.heap.size + 1 + 1 := by rw [← h2, alloc_size, s1]
 have s3 : w3.heap.size = w.heap.size + 1 + 1 + 1 := by rw [← h3, alloc_size, s2]
 have s4 : w4.heap.size = w.heap.size + 1 + 1 + 1 + 1 := by rw [← h4, alloc_size, s3]
 have s5 : w5.heap.size = w.heap.size + 1 + 1 + 1 + 1 + 1 := by rw [← h5, alloc_size, s4]
 have c0 : w5.heap[w.heap.size]? = some (.cells #[.int .i64 a] 3 (0, 0)) := by subst h5 h4 h3 h2 h1; exact alloc_keep (alloc_keep (alloc_keep (alloc_keep (alloc_at rfl))))
 have c1 : w5.heap[w.heap.size + 1]? = some (.cells #[v] 24 (0, 0)) := by subst h5 h4 h3 h2; exact alloc_keep (alloc_keep (alloc_keep (alloc_at s1.symm)))
 have c2 : w5.heap[w.heap.size + 1 + 1]? = some (.cells #[] 33 (0, 0)) := by subst h5 h4 h3; exact alloc_keep (alloc_keep (alloc_at s2.symm))
 have c3 : w5.heap[w.heap.size + 1 + 1 + 1]? = some (.cells #[.slice (some ⟨w.heap.size + 1 + 1, 0, none⟩) 0 0] 28 (0, 0)) := by subst h5 h4; exact alloc_keep (alloc_at s3.symm)
 have c4 : w5.heap[w.heap.size + 1 + 1 + 1 + 1]? = some (.cells #[solF w] 82 (0, 0)) := by subst h5; exact alloc_at s4.symm
 refine ⟨?_, ?_, ?_, ?_, ?_, ?_, ?_, ?_, ?_, ?_⟩
 ·subst h5 h4 h3 h2 h1; rfl
 ·subst h5 h4 h3 h2 h1; rfl
 ·subst h5 h4 h3 h2 h1; rfl
 ·exact s5
 ·intro k hk
  subst h5 h4 h3 h2 h1
  rw [alloc_old (by rw [s4]; omega), alloc_old (by rw [s3]; omega), alloc_old (by rw [s2]; omega), alloc_old (by rw [s1]; omega), alloc_old hk]
 ·exact c0
 ·exact c1
 ·exact c2
 ·exact c3
 ·exact c4
theorem solNil (w : World) (a : Int) (v : Value) : (solW w a v .nilFunc).cell? ⟨w.heap.size + 1 + 1 + 1 + 1, 0, none⟩ = some .nilFunc ∧ (solW w a v .nilFunc).frozen? ⟨w.heap.size + 1 + 1 + 1 + 1, 0, none⟩ = false := by
 have h : (solW w a v .nilFunc).heap[w.heap.size + 1 + 1 + 1 + 1]? = some (.cells #[.nilFunc] 82 (0, 0)) := by
  unfold solW
  refine alloc_at ?_
  rw [alloc_size, alloc_size, alloc_size, alloc_size]
 exact ⟨by rw [cell_of_row _ _ _ _ _ _ h]; rfl, by simp [World.frozen?, h]⟩
set_option maxHeartbeats 4000000 in
theorem impl_solutions.ok : SpecOk Tryz.prog I 44 impl_solutions.sp := spec2_ok ⟨_, Tryz.func44, by kernel_rfl, by kernel_rfl⟩ (by
 intro S w (a : Int) (cl : List (Int × Int × Int)) u v r hI0 hlt hu hv hr
 rw [ValR.int] at hu
 subst hu
 obtain ⟨⟨p, cl', rows⟩, hr1, rfl⟩ := Option.map_eq_some_iff.1 hr
 clear hr
 obtain ⟨A, n, c, rfl⟩ : ∃ A n c, v = .slice A n c := by
  rw [ValR.slice] at hv
  rcases hv with ⟨ad, rfl, _⟩ | ⟨b, off, cap, rfl, _⟩
  ·exact ⟨_, _, _, rfl⟩
  ·exact ⟨_, _, _, rfl⟩
 have hW := solAt w a (.slice A n c)
 generalize hw6 : solW w a (.slice A n c) (solF w) = w6 at hW
 have hk : Keep S w w6 := ⟨by rw [hW.size]; omega, fun b hb hl => hW.old b hl⟩
 have hv' : Cells (fun b => S b ∨ b = w.heap.size + 1 + 1 + 1 + 1) w6 (.slice (.pair (.int .i64) (.pair (.int .i64) (.int .i64)))) cl [.slice A n c] := by
  obtain ⟨cs, h1, h2⟩ := hv
  have hl := h1.length
  obtain ⟨u, rfl⟩ := List.length_eq_one_iff.1 hl
  have h3 : u = .slice A n c := h2.symm
  subst h3
  exact h1.mono hk (fun b hb => .inl hb)
 have HC := Aside0.mk (impl_solutions_1.ok.calls (fun b => S b ∨ b = w.heap.size + 1 + 1 + 1 + 1) w6
  [.v (.slice (.int .i64)) ([] : List Int), .bx [⟨.int .i64, a⟩], .fp 82 69 [some 1000001, none, some 1000003, some 1000004], .bx [⟨.slice (.pair (.int .i64) (.pair (.int .i64) (.int .i64))), cl⟩], .bx [ownV 33 (.slice (.int .i64)) ([] : List (List Int))]]
  [.slice none 0 0, .pointer (some ⟨w.heap.size, 0, none⟩), .pointer (some ⟨w.heap.size + 1 + 1 + 1 + 1, 0, none⟩), .pointer (some ⟨w.heap.size + 1, 0, none⟩), .pointer (some ⟨w.heap.size + 1 + 1 + 1, 0, none⟩)]
  [w.heap.size, w.heap.size + 1, w.heap.size + 1 + 1 + 1] [w.heap.size + 1 + 1] (p, cl', rows)
  (hI _ _ _ _ hI0 hk (fun b hb => .inl hb)) (by
   rintro b (hb | hb)
   ·have := hlt b hb; rw [hW.size]; omega
   ·rw [hW.size]; omega) (by simp; omega) (by
   intro g hg
   have hg' : g = w.heap.size ∨ g = w.heap.size + 1 ∨ g = w.heap.size + 1 + 1 + 1 ∨ g = w.heap.size + 1 + 1 := by simpa using hg
   refine ⟨?_, by rw [hW.size]; omega⟩
   rintro (hb | hb)
   ·have := hlt g hb; omega
   ·omega) (by
   refine ⟨_, _, rfl, ValR.slice.2 (.inl ⟨none, rfl, rfl⟩), _, _, _, _, (fun _ => none), rfl, rfl, rfl, ⟨_, _, hW.h0, .inl ⟨rfl, _, _, rfl, rfl, rfl⟩⟩, _, #[.pointer (some ⟨w.heap.size, 0, none⟩), .pointer (some ⟨w.heap.size + 1 + 1 + 1 + 1, 0, none⟩), .pointer (some ⟨w.heap.size + 1, 0, none⟩), .pointer (some ⟨w.heap.size + 1 + 1 + 1, 0, none⟩)], _, rfl, ?_, ⟨sol_loads, .inr rfl, by rw [hW.size]; omega, ?_⟩, _, _, _, _, (fun _ => none), rfl, rfl, rfl, ⟨_, _, hW.h1, .inl ⟨rfl, _, _, rfl, hv', rfl⟩⟩, _, _, _, _, (fun _ => some (w.heap.size + 1 + 1)), rfl, rfl, rfl, ⟨_, _, hW.h3, .inl ⟨rfl, _, _, rfl, ?_, rfl⟩⟩, rfl, rfl, rfl⟩
   ·exact ⟨_, _, rfl, rfl, _, rfl, _, _, rfl, rfl, _, _, rfl, rfl, rfl⟩
   ·rw [cell_of_row _ _ _ _ _ _ hW.h4]; rfl
   ·exact ⟨[], ⟨rfl, .inr ⟨_, 0, #[], rfl, Nat.zero_le _, hW.h2, Nat.le_refl _, Nat.zero_le _, rfl, rfl⟩⟩, rfl, rfl⟩) hr1)
 have HS := Aside0.mk (And.intro hlt hW)
 have hcz6 : (solW w a (.slice A n c) .nilFunc).cell? ⟨w.heap.size + 1 + 1 + 1 + 1, 0, none⟩ = some .nilFunc := (solNil w a (.slice A n c)).1
 have hfz6 : (solW w a (.slice A n c) .nilFunc).frozen? ⟨w.heap.size + 1 + 1 + 1 + 1, 0, none⟩ = false := (solNil w a (.slice A n c)).2
 unfold solW at hcz6 hfz6
 clear hr1 hI0 hlt hv hv' hW hk
 go_enter Tryz.func44, Tryz.ntmps44
 go_wp2_with fail
 rw [run_store _ _ _ _ _ rfl, hcz6]
 simp only [hfz6, Bool.false_eq_true, if_false, Result.andThen_ok]
 go_wp2_with fail
 rw [← hw6] at HC HS
 refine HC.out.mono ?_
 clear HC hcz6 hfz6 hw6
 rintro e w7 ⟨rv, S2, B2, Bo, rfl, hkept, hres, houts, hX, hrows⟩
 obtain ⟨hlt, hW⟩ := HS.out
 obtain ⟨g0, X0, e0, _, g1, X1, e1, _, g2, X2, e2, hbox, _⟩ := houts
 cases e0
 cases e1
 cases e2
 obtain ⟨cells, id, hh, hc⟩ := hbox
 obtain ⟨u, r, hu, hleaf, hr0⟩ := hc.leaves rfl
 have hr1 : r = [] := hr0
 subst hr1
 have hcells : cells = #[u] := by
  cases cells
  exact congrArg Array.mk hu
 subst hcells
 obtain ⟨cs2, hown, hrc, hob⟩ := hleaf
 obtain ⟨A2, n2, c2, rfl⟩ : ∃ A2 n2 c2, u = .slice A2 n2 c2 := by
  rcases hown.2 with ⟨h, _⟩ | ⟨g, cap, cur, h, _⟩
  ·exact ⟨_, _, _, h⟩
  ·exact ⟨_, _, _, h⟩
 have HF : Aside0 (After S w [] [] [.own 33 (.slice (.int .i64)) rows] [] (.returned (.slice A2 n2 c2)) w7) := by
  refine ⟨.slice A2 n2 c2, S2, fun i => if i = 0 then Bo 2 0 else none, fun _ _ => none, rfl, ⟨hkept.os.trans hW.os, hkept.tape.trans hW.tape, hkept.output.trans hW.output, ?_, ?_⟩, ⟨.inl rfl, ?_, fun b hb => hres.sup b (.inl hb), hres.lt, ?_, ?_, ?_⟩, rfl, (fun _ h => by cases h), RowsAt.none _ _ _ _ _⟩
  ·have := hkept.size
   have := hW.size
   omega
  ·intro k hk _
   refine (hkept.block k (by rw [hW.size]; omega) ?_).trans (hW.old k hk)
   intro h
   have h' : (k = w.heap.size ∨ k = w.heap.size + 1 ∨ k = w.heap.size + 1 + 1 + 1) ∨ k = w.heap.size + 1 + 1 := by simpa using h
   omega
  ·intro b hb
   have hs := hW.size
   rcases hres.frm b hb with (h | h) | h | h
   ·exact .inl h
   ·exact .inr (.inl (by omega))
   ·exact .inr (.inl (by omega))
   ·have h' : b = w.heap.size + 1 + 1 := by simpa using h
    exact .inr (.inl (by omega))
  ·intro i j g h1 h2
   by_cases hi : i = 0
   ·by_cases hj : j = 0
    ·omega
    ·rw [if_neg hj] at h2; cases h2
   ·rw [if_neg hi] at h1; cases h1
  ·intro i g h1
   by_cases hi : i = 0
   ·rw [if_pos hi] at h1
    have hs := hW.size
    obtain ⟨k1, k2, k3⟩ := hrows.free 2 0 g h1
    refine ⟨.inl ?_, k2, k3⟩
    rcases k1 with h | h
    ·omega
    ·have h' : g = w.heap.size + 1 + 1 := by simpa using h
     omega
   ·rw [if_neg hi] at h1; cases h1
  ·intro i sv hs
   match i, hs with
   | 0, hs => cases hs; exact ⟨cs2, hown, hrc, hob⟩
   | _ + 1, hs => cases hs
 have hcz7 : w7.cell? ⟨w.heap.size + 1 + 1 + 1, 0, none⟩ = some (.slice A2 n2 c2) := by rw [cell_of_row _ _ _ _ _ _ hh]; rfl
 clear hkept hres hX hrows hh hc hu hr0 hown hrc hob hlt hW HS
 go_wp2
 go_ret
 exact HF.out)
end
noncomputable def impl_Puzzle_all.g : Gam := [(44, impl_solutions.sp)]
theorem impl_Puzzle_all.gok : GOkI Tryz.prog I impl_Puzzle_all.g := (GOkI.nil _ _).cons impl_solutions.ok
noncomputable def impl_Puzzle_all.i : FI := ⟨Tryz.f38, body Tryz.f38, (.seq .nil (.seq .nil .nil)), [], [], [.res (.tmp 2) (.own 33 (.slice (.int .i64)))]⟩
noncomputable def impl_Puzzle_all.sp : CSpec := mkSpec impl_Puzzle_all.g T impl_Puzzle_all.i
theorem impl_Puzzle_all.ok : SpecOk Tryz.prog I 38 impl_Puzzle_all.sp := mkSpec_ok hmix hI impl_Puzzle_all.gok tok impl_Puzzle_all.i Tryz.func38 (by kernel_rfl) (by kernel_rfl) (by kernel_rfl) (by kernel_rfl)
noncomputable def impl_Puzzle_all.f (x0 : Int × (List (Int × Int × Int))) : Option (List (List Int)) := run impl_Puzzle_all.g T impl_Puzzle_all.i [.v (.pair (.int .i64) (.slice (.pair (.int .i64) (.pair (.int .i64) (.int .i64))))) x0]
theorem impl_Puzzle_all.f.eq (x0 : Int × (List (Int × Int × Int))) : impl_Puzzle_all.f x0 =
 (impl_solutions.f x0.1 x0.2).bind fun y1 =>
 some y1 := by kernel_rfl
noncomputable def impl_Solutions.g : Gam := [(26, impl_IsPuzzle.sp), (38, impl_Puzzle_all.sp)]
theorem impl_Solutions.gok : GOkI Tryz.prog I impl_Solutions.g := ((GOkI.nil _ _).cons impl_Puzzle_all.ok).cons impl_IsPuzzle.ok
noncomputable def impl_Solutions.i : FI := ⟨Tryz.f6, body Tryz.f6, (.seq .nil (.seq (.seq .nil (.cond (.seq .nil .nil) .nil)) (.seq .nil .nil))), [], [], [.res (.tmp 2) (.own 33 (.slice (.int .i64))), .res (.tmp 3) (.v .bool)]⟩
noncomputable def impl_Solutions.sp : CSpec := mkSpec impl_Solutions.g T impl_Solutions.i
theorem impl_Solutions.ok : SpecOk Tryz.prog I 6 impl_Solutions.sp := mkSpec_ok hmix hI impl_Solutions.gok tok impl_Solutions.i Tryz.func6 (by kernel_rfl) (by kernel_rfl) (by kernel_rfl) (by kernel_rfl)
noncomputable def impl_Solutions.f (x0 : Int × (List (Int × Int × Int))) : Option ((List (List Int)) × Bool) := run impl_Solutions.g T impl_Solutions.i [.v (.pair (.int .i64) (.slice (.pair (.int .i64) (.pair (.int .i64) (.int .i64))))) x0]
theorem impl_Solutions.f.eq (x0 : Int × (List (Int × Int × Int))) : impl_Solutions.f x0 =
 (impl_IsPuzzle.f (x0.1, x0.2)).bind fun y1 =>
 if (!y1) = true then
  some ([], false)
 else
  (impl_Puzzle_all.f (x0.1, x0.2)).bind fun y2 =>
  some (y2, true) := by kernel_rfl
noncomputable def spec_pzClue.g : Gam := [(92, spec_l1In.sp)]
theorem spec_pzClue.gok : GOkI Tryz.prog I spec_pzClue.g := (GOkI.nil _ _).cons spec_l1In.ok
noncomputable def spec_pzClue.i : FI := ⟨Tryz.f67, body Tryz.f67, (.seq .nil (.seq (.seq .nil (.cond (.seq .nil .nil) .nil)) (.seq (.seq .nil (.blk (.cut [0, 3, 10, 11] [3] (.seq .nil (.cond .nil (.seq .nil (.cond .nil .nil)))) (.cond (.seq .nil .nil) (.seq .nil (.cond (.seq .nil .nil) (.cut [0, 3, 10, 25] [3] (.seq .nil (.cond .nil .nil)) (.cond (.seq .nil .nil) (.seq .nil (.cond (.seq .nil .nil) .nil)))))))))) (.seq .nil .nil)))), [], [], [.res (.tmp 4) (.v .bool)]⟩
noncomputable def spec_pzClue.sp : CSpec := mkSpec spec_pzClue.g T spec_pzClue.i
theorem spec_pzClue.ok : SpecOk Tryz.prog I 67 spec_pzClue.sp := mkSpec_ok hmix hI spec_pzClue.gok tok spec_pzClue.i Tryz.func67 (by kernel_rfl) (by kernel_rfl) (by kernel_rfl) (by kernel_rfl)
noncomputable def spec_pzClue.f (x0 : Int) (x1 : Int × Int × Int) : Option (Bool) := run spec_pzClue.g T spec_pzClue.i [.v (.int .i64) x0, .v (.pair (.int .i64) (.pair (.int .i64) (.int .i64))) x1]
noncomputable def spec_pzClue.j0 (x0 : Int) (x10 : Int) (x11 : Bool) (xb3_0 : Int) (xb3_1 : Int) (xb3_2 : Int) : Option (Bool) := runJ spec_pzClue.g T spec_pzClue.i [true, true, false, true, false, true] [(0, .val (.int .i64) x0), (3, .ptr 3 0), (10, .val (.int .i64) x10), (11, .val .bool x11)] [(3, [⟨(.int .i64), xb3_0⟩, ⟨(.int .i64), xb3_1⟩, ⟨(.int .i64), xb3_2⟩])]
noncomputable def spec_pzClue.j1 (x0 : Int) (x10 : Int) (x25 : Bool) (xb3_0 : Int) (xb3_1 : Int) (xb3_2 : Int) : Option (Bool) := runJ spec_pzClue.g T spec_pzClue.i [true, true, false, true, false, true, true, true, true, true] [(0, .val (.int .i64) x0), (3, .ptr 3 0), (10, .val (.int .i64) x10), (25, .val .bool x25)] [(3, [⟨(.int .i64), xb3_0⟩, ⟨(.int .i64), xb3_1⟩, ⟨(.int .i64), xb3_2⟩])]
theorem spec_pzClue.f.eq (x0 : Int) (x1 : Int × Int × Int) : spec_pzClue.f x0 x1 =
 (spec_l1In.f x1.2.2 0 2000).bind fun y1 =>
 if (!y1) = true then
  some false
 else
  if (x1.1 == 0) = true then
   spec_pzClue.j0 x0 x1.1 (x1.1 == 0) x1.1 x1.2.1 x1.2.2
  else
   if (x1.1 == 2) = true then
    spec_pzClue.j0 x0 x1.1 (x1.1 == 2) x1.1 x1.2.1 x1.2.2
   else
    spec_pzClue.j0 x0 x1.1 (x1.1 == 4) x1.1 x1.2.1 x1.2.2 := by kernel_rfl
theorem spec_pzClue.j0.eq (x0 : Int) (x10 : Int) (x11 : Bool) (xb3_0 : Int) (xb3_1 : Int) (xb3_2 : Int) : spec_pzClue.j0 x0 x10 x11 xb3_0 xb3_1 xb3_2 =
 if x11 = true then
  some (xb3_1 == 0)
 else
  if (x10 == 1) = true then
   (spec_l1In.f xb3_1 0 (IntKind.i64.wrap (x0 - 1))).bind fun y3 =>
   some y3
  else
   if (x10 == 3) = true then
    spec_pzClue.j1 x0 x10 (x10 == 3) xb3_0 xb3_1 xb3_2
   else
    spec_pzClue.j1 x0 x10 (x10 == 5) xb3_0 xb3_1 xb3_2 := (runJ_eq _ _ _ _ _ _).trans (by kernel_rfl)
theorem spec_pzClue.j1.eq (x0 : Int) (x10 : Int) (x25 : Bool) (xb3_0 : Int) (xb3_1 : Int) (xb3_2 : Int) : spec_pzClue.j1 x0 x10 x25 xb3_0 xb3_1 xb3_2 =
 if x25 = true then
  (spec_l1In.f xb3_1 0 (IntKind.i64.wrap (x0 - 1))).bind fun y2 =>
  if y2 = true then
   some (if true = true then (decide (xb3_2 < 2)) else false)
  else
   some false
 else
  if (x10 == 6) = true then
   (spec_l1In.f xb3_1 0 9).bind fun y5 =>
   if y5 = true then
    (spec_l1In.f xb3_2 2 9).bind fun y6 =>
    some (if true = true then y6 else false)
   else
    some false
  else
   some false := (runJ_eq _ _ _ _ _ _).trans (by kernel_rfl)
noncomputable def spec_pzGood.g : Gam := [(66, spec_pzPeople.sp), (67, spec_pzClue.sp)]
theorem spec_pzGood.gok : GOkI Tryz.prog I spec_pzGood.g := ((GOkI.nil _ _).cons spec_pzClue.ok).cons spec_pzPeople.ok
noncomputable def spec_pzGood.i : FI := ⟨Tryz.f39, body Tryz.f39, (.seq .nil (.seq (.cut [1, 14] [1] .nil (.cond (.seq .nil .nil) .nil)) (.seq (.seq .nil (.blk (.loop [1, 16, 17, 18] [1] (.seq .nil (.seq (.cond .nil .nil) (.seq (.blk (.seq .nil (.seq .nil (.cond (.seq .nil .nil) .nil)))) .nil)))))) (.seq .nil .nil)))), [], [], [.res (.tmp 2) (.v .bool)]⟩
noncomputable def spec_pzGood.sp : CSpec := mkSpec spec_pzGood.g T spec_pzGood.i
theorem spec_pzGood.ok : SpecOk Tryz.prog I 39 spec_pzGood.sp := mkSpec_ok hmix hI spec_pzGood.gok tok spec_pzGood.i Tryz.func39 (by kernel_rfl) (by kernel_rfl) (by kernel_rfl) (by kernel_rfl)
noncomputable def spec_pzGood.f (x0 : Int × (List (Int × Int × Int))) : Option (Bool) := run spec_pzGood.g T spec_pzGood.i [.v (.pair (.int .i64) (.slice (.pair (.int .i64) (.pair (.int .i64) (.int .i64))))) x0]
noncomputable def spec_pzGood.j0 (x14 : Bool) (xb1_0 : Int) (xb1_1 : List (Int × Int × Int)) : Option (Bool) := runJ spec_pzGood.g T spec_pzGood.i [true, false, true] [(1, .ptr 1 0), (14, .val .bool x14)] [(1, [⟨(.int .i64), xb1_0⟩, ⟨(.slice (.pair (.int .i64) (.pair (.int .i64) (.int .i64)))), xb1_1⟩])]
noncomputable def spec_pzGood.l0 (x16 : List (Int × Int × Int)) (x17 : Int) (x18 : Int) (xb1_0 : Int) (xb1_1 : List (Int × Int × Int)) : Option (Bool) := runAt spec_pzGood.g T spec_pzGood.i [true, true, false, true, false] [(1, .ptr 1 0), (16, .val (.slice (.pair (.int .i64) (.pair (.int .i64) (.int .i64)))) x16), (17, .val (.int .i64) x17), (18, .val (.int .i64) x18)] [(1, [⟨(.int .i64), xb1_0⟩, ⟨(.slice (.pair (.int .i64) (.pair (.int .i64) (.int .i64)))), xb1_1⟩])]
theorem spec_pzGood.f.eq (x0 : Int × (List (Int × Int × Int))) : spec_pzGood.f x0 =
 (spec_pzPeople.f x0.1).bind fun y1 =>
 if (!y1) = true then
  spec_pzGood.j0 true x0.1 x0.2
 else
  spec_pzGood.j0 (if false = true then true else (decide ((x0.2.length : Int) > 6))) x0.1 x0.2 := by kernel_rfl
theorem spec_pzGood.j0.eq (x14 : Bool) (xb1_0 : Int) (xb1_1 : List (Int × Int × Int)) : spec_pzGood.j0 x14 xb1_0 xb1_1 =
 if x14 = true then
  some false
 else
  spec_pzGood.l0 xb1_1 (xb1_1.length : Int) 0 xb1_0 xb1_1 := (runJ_eq _ _ _ _ _ _).trans (by kernel_rfl)
theorem spec_pzGood.l0.eq (x16 : List (Int × Int × Int)) (x17 : Int) (x18 : Int) (xb1_0 : Int) (xb1_1 : List (Int × Int × Int)) : spec_pzGood.l0 x16 x17 x18 xb1_0 xb1_1 =
 if (decide (x18 < x17)) = true then
  (rdI x16 x18).bind fun y2 =>
  (spec_pzClue.f xb1_0 (y2.1, y2.2.1, y2.2.2)).bind fun y3 =>
  if (!y3) = true then
   some false
  else
   spec_pzGood.l0 x16 x17 (IntKind.i64.wrap (x18 + 1)) xb1_0 xb1_1
 else
  some true := (runAt_loop _ _ _ _ _ _).trans (by kernel_rfl)
noncomputable def spec_l1Own.g : Gam := []
theorem spec_l1Own.gok : GOkI Tryz.prog I spec_l1Own.g := GOkI.nil _ _
noncomputable def spec_l1Own.i : FI := ⟨Tryz.f42, body Tryz.f42, (.seq .nil (.seq .nil .nil)), [], [], [.res (.tmp 2) (.own 3 (.int .i64))]⟩
noncomputable def spec_l1Own.sp : CSpec := mkSpec spec_l1Own.g T spec_l1Own.i
theorem spec_l1Own.ok : SpecOk Tryz.prog I 42 spec_l1Own.sp := mkSpec_ok hmix hI spec_l1Own.gok tok spec_l1Own.i Tryz.func42 (by kernel_rfl) (by kernel_rfl) (by kernel_rfl) (by kernel_rfl)
noncomputable def spec_l1Own.f (x0 : List Int) : Option (List Int) := run spec_l1Own.g T spec_l1Own.i [.v (.slice (.int .i64)) x0]
theorem spec_l1Own.f.eq (x0 : List Int) : spec_l1Own.f x0 =
 (catI (appMax 8) [] x0).bind fun y1 =>
 some y1 := by kernel_rfl
noncomputable def spec_pzFits.g : Gam := [(114, spec_agSum.sp), (115, spec_pzValue.sp)]
theorem spec_pzFits.gok : GOkI Tryz.prog I spec_pzFits.g := ((GOkI.nil _ _).cons spec_pzValue.ok).cons spec_agSum.ok
noncomputable def spec_pzFits.i : FI := ⟨Tryz.f93, body Tryz.f93, (.seq .nil (.seq (.seq .nil (.cond (.seq .nil .nil) .nil)) (.seq .nil .nil))), [], [], [.res (.tmp 4) (.v .bool)]⟩
noncomputable def spec_pzFits.sp : CSpec := mkSpec spec_pzFits.g T spec_pzFits.i
theorem spec_pzFits.ok : SpecOk Tryz.prog I 93 spec_pzFits.sp := mkSpec_ok hmix hI spec_pzFits.gok tok spec_pzFits.i Tryz.func93 (by kernel_rfl) (by kernel_rfl) (by kernel_rfl) (by kernel_rfl)
noncomputable def spec_pzFits.f (x0 : Int × Int × Int) (x1 : List Int) : Option (Bool) := run spec_pzFits.g T spec_pzFits.i [.v (.pair (.int .i64) (.pair (.int .i64) (.int .i64))) x0, .v (.slice (.int .i64)) x1]
theorem spec_pzFits.f.eq (x0 : Int × Int × Int) (x1 : List Int) : spec_pzFits.f x0 x1 =
 if (x0.1 == 6) = true then
  (spec_agSum.f x1).bind fun y2 =>
  if x0.2.2 = 0 then
   none
  else
   some (((IntKind.i64.wrap (y2 + (IntKind.i64.wrap (x0.2.1 * (x1.length : Int))))).tmod x0.2.2) == 0)
 else
  (spec_pzValue.f x0.1 x0.2.1 x1).bind fun y7 =>
  some (y7 == x0.2.2) := by kernel_rfl
noncomputable def spec_pzLook.g : Gam := [(42, spec_l1Own.sp), (93, spec_pzFits.sp)]
theorem spec_pzLook.gok : GOkI Tryz.prog I spec_pzLook.g := ((GOkI.nil _ _).cons spec_pzFits.ok).cons spec_l1Own.ok
noncomputable def spec_pzLook.i : FI := ⟨Tryz.f68, body Tryz.f68, (.seq (.seq .nil (.cond (.seq (.seq .nil (.blk (.loop [0, 1, 2, 3, 8] [1000003] (.seq (.seq .nil (.cond .nil .nil)) (.seq (.blk .nil) .nil))))) .nil) .nil)) (.seq (.seq .nil (.blk (.loop [2, 3, 27, 28, 29] [1000003] (.seq .nil (.seq (.cond .nil .nil) (.seq (.blk (.seq .nil (.seq .nil (.cond .nil .nil)))) .nil)))))) .nil)), [], [1000003], [.box 1000003 0 (.own 33 (.slice (.int .i64)))]⟩
noncomputable def spec_pzLook.sp : CSpec := limSpec spec_pzLook.g T spec_pzLook.i 68
theorem spec_pzLook.ok : SpecOk Tryz.prog I 68 spec_pzLook.sp := limSpec_ok hmix hI spec_pzLook.gok tok spec_pzLook.i Tryz.func68 (by kernel_rfl) (by kernel_rfl) (by kernel_rfl) (by kernel_rfl)
noncomputable def spec_pzLook.r (k : Nat) (x0 : Int) (x1 : List (Int × Int × Int)) (x2 : List Int) (x3_0 : List (List Int)) : Option (List (List Int)) := recO spec_pzLook.g T spec_pzLook.i 68 k [.v (.int .i64) x0, .v (.slice (.pair (.int .i64) (.pair (.int .i64) (.int .i64)))) x1, .v (.slice (.int .i64)) x2, .bx [ownV 33 (.slice (.int .i64)) x3_0]]
noncomputable def spec_pzLook.f (x0 : Int) (x1 : List (Int × Int × Int)) (x2 : List Int) (x3_0 : List (List Int)) : Option (List (List Int)) := lim fun k => spec_pzLook.r k x0 x1 x2 x3_0
noncomputable def spec_pzLook.l0 (k : Nat) (x0 : Int) (x1 : List (Int × Int × Int)) (x2 : List Int) (x8 : Int) (x3_0 : List (List Int)) : Option (List (List Int)) := runAt ((68, recSpec spec_pzLook.g T spec_pzLook.i 68 k) :: spec_pzLook.g) T spec_pzLook.i [false, true, false, false, true, false] [(0, .val (.int .i64) x0), (1, .val (.slice (.pair (.int .i64) (.pair (.int .i64) (.int .i64)))) x1), (2, .val (.slice (.int .i64)) x2), (3, .ptr 1000003 0), (8, .val (.int .i64) x8)] [(1000003, [ownV 33 (.slice (.int .i64)) x3_0])]
noncomputable def spec_pzLook.l1 (k : Nat) (x2 : List Int) (x27 : List (Int × Int × Int)) (x28 : Int) (x29 : Int) (x3_0 : List (List Int)) : Option (List (List Int)) := runAt ((68, recSpec spec_pzLook.g T spec_pzLook.i 68 k) :: spec_pzLook.g) T spec_pzLook.i [true, false, true, false] [(2, .val (.slice (.int .i64)) x2), (3, .ptr 1000003 0), (27, .val (.slice (.pair (.int .i64) (.pair (.int .i64) (.int .i64)))) x27), (28, .val (.int .i64) x28), (29, .val (.int .i64) x29)] [(1000003, [ownV 33 (.slice (.int .i64)) x3_0])]
theorem spec_pzLook.r.eq (k : Nat) (x0 : Int) (x1 : List (Int × Int × Int)) (x2 : List Int) (x3_0 : List (List Int)) : spec_pzLook.r (k + 1) x0 x1 x2 x3_0 =
 if (decide (x0 > 0)) = true then
  spec_pzLook.l0 k x0 x1 x2 1 x3_0
 else
  spec_pzLook.l1 k x2 x1 (x1.length : Int) 0 x3_0 := by kernel_rfl
theorem spec_pzLook.l0.eq (k : Nat) (x0 : Int) (x1 : List (Int × Int × Int)) (x2 : List Int) (x8 : Int) (x3_0 : List (List Int)) : spec_pzLook.l0 k x0 x1 x2 x8 x3_0 =
 if (decide (x8 ≤ 12)) = true then
  (spec_l1Own.f x2).bind fun y3 =>
  (catI (appMax 8) y3 [x8]).bind fun y4 =>
  (spec_pzLook.r k (IntKind.i64.wrap (x0 - 1)) x1 y4 x3_0).bind fun y5 =>
  spec_pzLook.l0 k x0 x1 x2 (IntKind.i64.wrap (x8 + 1)) y5
 else
  some x3_0 := (runAt_loop _ _ _ _ _ _).trans (by kernel_rfl)
theorem spec_pzLook.l1.eq (k : Nat) (x2 : List Int) (x27 : List (Int × Int × Int)) (x28 : Int) (x29 : Int) (x3_0 : List (List Int)) : spec_pzLook.l1 k x2 x27 x28 x29 x3_0 =
 if (decide (x29 < x28)) = true then
  (rdI x27 x29).bind fun y2 =>
  (spec_pzFits.f (y2.1, y2.2.1, y2.2.2) x2).bind fun y3 =>
  if (!y3) = true then
   some x3_0
  else
   spec_pzLook.l1 k x2 x27 x28 (IntKind.i64.wrap (x29 + 1)) x3_0
 else
  (catI (appMax 24) x3_0 [x2]).bind fun y5 =>
  some y5 := (runAt_loop _ _ _ _ _ _).trans (by kernel_rfl)
noncomputable def spec_pzLook_v1.r (k : Nat) (x0 : Int) (x1 : List (Int × Int × Int)) (x3_0 : List (List Int)) : Option (List (List Int)) := recO spec_pzLook.g T spec_pzLook.i 68 k [.v (.int .i64) x0, .v (.slice (.pair (.int .i64) (.pair (.int .i64) (.int .i64)))) x1, .nl (.int .i64), .bx [ownV 33 (.slice (.int .i64)) x3_0]]
noncomputable def spec_pzLook_v1.f (x0 : Int) (x1 : List (Int × Int × Int)) (x3_0 : List (List Int)) : Option (List (List Int)) := lim fun k => spec_pzLook_v1.r k x0 x1 x3_0
noncomputable def spec_pzLook_v1.l0 (k : Nat) (x0 : Int) (x1 : List (Int × Int × Int)) (x2 : List Int) (x8 : Int) (x3_0 : List (List Int)) : Option (List (List Int)) := runAt ((68, recSpec spec_pzLook.g T spec_pzLook.i 68 k) :: spec_pzLook.g) T spec_pzLook.i [false, true, false, false, true, false] [(0, .val (.int .i64) x0), (1, .val (.slice (.pair (.int .i64) (.pair (.int .i64) (.int .i64)))) x1), (2, .val (.slice (.int .i64)) x2), (3, .ptr 1000003 0), (8, .val (.int .i64) x8)] [(1000003, [ownV 33 (.slice (.int .i64)) x3_0])]
noncomputable def spec_pzLook_v1.l1 (k : Nat) (x2 : List Int) (x27 : List (Int × Int × Int)) (x28 : Int) (x29 : Int) (x3_0 : List (List Int)) : Option (List (List Int)) := runAt ((68, recSpec spec_pzLook.g T spec_pzLook.i 68 k) :: spec_pzLook.g) T spec_pzLook.i [true, false, true, false] [(2, .val (.slice (.int .i64)) x2), (3, .ptr 1000003 0), (27, .val (.slice (.pair (.int .i64) (.pair (.int .i64) (.int .i64)))) x27), (28, .val (.int .i64) x28), (29, .val (.int .i64) x29)] [(1000003, [ownV 33 (.slice (.int .i64)) x3_0])]
theorem spec_pzLook_v1.r.eq (k : Nat) (x0 : Int) (x1 : List (Int × Int × Int)) (x3_0 : List (List Int)) : spec_pzLook_v1.r (k + 1) x0 x1 x3_0 =
 if (decide (x0 > 0)) = true then
  spec_pzLook_v1.l0 k x0 x1 [] 1 x3_0
 else
  spec_pzLook_v1.l1 k [] x1 (x1.length : Int) 0 x3_0 := by kernel_rfl
theorem spec_pzLook_v1.l0.eq (k : Nat) (x0 : Int) (x1 : List (Int × Int × Int)) (x2 : List Int) (x8 : Int) (x3_0 : List (List Int)) : spec_pzLook_v1.l0 k x0 x1 x2 x8 x3_0 =
 if (decide (x8 ≤ 12)) = true then
  (spec_l1Own.f x2).bind fun y3 =>
  (catI (appMax 8) y3 [x8]).bind fun y4 =>
  (spec_pzLook.r k (IntKind.i64.wrap (x0 - 1)) x1 y4 x3_0).bind fun y5 =>
  spec_pzLook_v1.l0 k x0 x1 x2 (IntKind.i64.wrap (x8 + 1)) y5
 else
  some x3_0 := (runAt_loop _ _ _ _ _ _).trans (by kernel_rfl)
theorem spec_pzLook_v1.l1.eq (k : Nat) (x2 : List Int) (x27 : List (Int × Int × Int)) (x28 : Int) (x29 : Int) (x3_0 : List (List Int)) : spec_pzLook_v1.l1 k x2 x27 x28 x29 x3_0 =
 if (decide (x29 < x28)) = true then
  (rdI x27 x29).bind fun y2 =>
  (spec_pzFits.f (y2.1, y2.2.1, y2.2.2) x2).bind fun y3 =>
  if (!y3) = true then
   some x3_0
  else
   spec_pzLook_v1.l1 k x2 x27 x28 (IntKind.i64.wrap (x29 + 1)) x3_0
 else
  (catI (appMax 24) x3_0 [x2]).bind fun y5 =>
  some y5 := (runAt_loop _ _ _ _ _ _).trans (by kernel_rfl)
end Go.Proofs.YtecdijlfnnminaaGreatDoor.S
