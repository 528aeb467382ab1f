/- strings.Contains of a text of one byte, by the entry that the model stands in for, as the engine takes it. No condition. -/
import Derived.Test.YtbmbejbhlcadmaaGreatE3
import Derived.Test.YtbmbejbhlcadmaaGreatProg
import Derived.WalkKit
import Derived.WalkSmall
import Derived.Deep.QuietTactic
import Derived.BigQuiet
import Derived.OwnWalk
import Derived.WideLaws
import Derived.Tactics
import Derived.RowKit3
import Derived.ArgAppend
import Derived.Lib.Bytealg
import Derived.Deep.RegionHeld3
namespace Go.Proofs.YtbmbejbhlcadmaaGreat.S
open Go Go.Proofs.YtbmbejbhlcadmaaGreat.Eng Go.Proofs Go.RowKit Go.Proofs.YtbmbejbhlcadmaaGreat
set_option maxRecDepth 100000
set_option linter.unusedVariables false

structure Aside0 (p : Prop) : Prop where mk :: (out : p)
/-! ### what is known of the world at each call: nothing -/
def I : Inv := fun _ _ => True
theorem hI : InvOk I := InvOk.true

/-! ### strings.Contains -/
noncomputable def strings_Contains.f (a b : List UInt8) : Option Bool := if b.length = 1 then some (decide (0 ≤ Go.Lib.indexByte a (b.headD 0))) else none
noncomputable def strings_Contains.sp : CSpec := spec2 .str .str strings_Contains.f (fun r => [.val .bool r])
set_option maxHeartbeats 1000000 in
theorem strings_Contains.lite0 (a : ByteArray) (c : UInt8) (w : World) : Calls Tryz.prog 104 #[.string a, .int .u8 (c.toNat : Int)] w fun e w' => e = .returned (.int .i64 (Go.Lib.indexByte a.data.toList c)) ∧ w' = w := by
  go_enter Tryz.func104, Tryz.ntmps104
  go_wp2
  rw [run_callFunc_extern Tryz.func108 (by kernel_rfl) (by kernel_rfl) (by kernel_rfl) (e := Extern.BytealgIndexByte.indexByte) (by kernel_rfl), Go.Lib.run_indexByteString]
  simp only [Result.andThen]
  rw [Oper.upon_value]
  go_wp2
  go_ret
  exact ⟨rfl, rfl⟩
set_option maxHeartbeats 1000000 in
theorem strings_Contains.lite (a : ByteArray) (c : UInt8) (w : World) : Calls Tryz.prog 101 #[.string a, .string ⟨#[c]⟩] w fun e w' => e = .returned (.int .i64 (Go.Lib.indexByte a.data.toList c)) ∧ w' = w := by
  have hs : (⟨#[c]⟩ : ByteArray).size = 1 := rfl
  go_enter Tryz.func101, Tryz.ntmps101
  go_wp2_with fail
  · rename_i hm
    have ha : a.data.toList = [c] := by rw [← ByteArray.toList_eq]; exact (by simpa using hm : [c] = a.toList).symm
    go_ret
    refine ⟨?_, rfl⟩
    rw [ha]
    simp [Go.Lib.indexByte]
  show Calls _ _ #[.string a, .int .u8 (c.toNat : Int)] w _
  refine (strings_Contains.lite0 a c w).mono ?_
  rintro e w' ⟨rfl, rfl⟩
  go_wp2
  go_ret
  exact ⟨rfl, rfl⟩
set_option maxHeartbeats 1000000 in
theorem strings_Contains.lite2 (a : ByteArray) (c : UInt8) (w : World) : Calls Tryz.prog 89 #[.string a, .string ⟨#[c]⟩] w fun e w' => e = .returned (.int .i64 (Go.Lib.indexByte a.data.toList c)) ∧ w' = w := by
  go_enter Tryz.func89, Tryz.ntmps89
  go_wp2_with fail
  refine (strings_Contains.lite a c w).mono ?_
  rintro e w' ⟨rfl, rfl⟩
  go_wp2
  go_ret
  exact ⟨rfl, rfl⟩
set_option maxHeartbeats 1000000 in
theorem strings_Contains.walk (a : ByteArray) (c : UInt8) (w : World) : Calls Tryz.prog 75 #[.string a, .string ⟨#[c]⟩] w fun e w' => e = .returned (.bool (decide (0 ≤ Go.Lib.indexByte a.data.toList c))) ∧ w' = w := by
  go_enter Tryz.func75, Tryz.ntmps75
  go_wp2_with fail
  refine (strings_Contains.lite2 a c w).mono ?_
  rintro e w' ⟨rfl, rfl⟩
  go_wp2
  go_ret
  exact ⟨rfl, rfl⟩
theorem strings_Contains.ok : SpecOk Tryz.prog I 75 strings_Contains.sp := spec2_ok ⟨_, Tryz.func75, by kernel_rfl, by kernel_rfl⟩ (by
  intro S w a b u v r hI hlt hu hv hr
  rw [ValR.str] at hu hv
  subst hu hv
  unfold strings_Contains.f at hr
  split at hr
  · rename_i hb
    obtain rfl := Option.some.inj hr
    obtain ⟨c, rfl⟩ := List.length_eq_one_iff.1 hb
    refine (strings_Contains.walk ⟨a.toArray⟩ c w).mono ?_
    rintro e w2 ⟨rfl, rfl⟩
    exact After.val1 (Below.refl _ _) hlt (ValR.bool.2 rfl)
  · cases hr)
end Go.Proofs.YtbmbejbhlcadmaaGreat.S
