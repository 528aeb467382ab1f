/- The given statement FnExactDoesFitSaid: at every input the law's Go function returns true, and each argument reads behind the call as before. No condition. -/
import Derived.Test.YtlkommjeflojjaaRows
import Derived.Test.YtlkommjeflojjaaD6
import Derived.Test.YtlkommjeflojjaaQOpen
import Derived.Test.YtlkommjeflojjaaPureFnExactDoesFit
import Derived.WalkKit
import Derived.ProofKit
import Derived.OpenShut
import Derived.ShutString
import Derived.ChangeOld
import Derived.Below
import Derived.SizedLaws
namespace Go.Proofs.Ytlkommjeflojjaa.fnExactDoesFit
open Go.Joins Go.ChangeShapes Go.WideShapes Go.ChangeAt Go.RowKit Go.Proofs.Ytlkommjeflojjaa.Q Go.Proofs.Ytlkommjeflojjaa.D Go.Proofs.YtlkommjeflojjaaW.PrintWords Go.Proofs.YtlkommjeflojjaaW.PrintLast
set_option linter.unusedVariables false
theorem own : ownKnob Try.prog.godebug = none := by kernel_rfl
theorem laidOut : laidOutB Try.prog = true := by kernel_rfl
set_option maxHeartbeats 1000000 in
set_option maxRecDepth 100000 in
theorem lifted (os : Os) (started : os.Started) (H : Type) (enc : TypeId × Value → H) :
    ReturnsInHanded {} Try.checked os 14 .any (Rows.fnExactDoesFitSpec.pre6 enc Try.prog Try.f14 Rows.fnExactDoesFitRow.domain false) (Rows.fnExactDoesFitSpec.post enc Try.prog Try.f14 false true false false) := by
  refine returnsInHanded_of_change_sized (C := Try.checked) own started (by kernel_rfl) Try.func14
    (ChangeSpec.witness6 (enc := enc) (C := Try.checked) false ⟨#[], #[.agg #[.int .i64 0, .int .i64 0, .int .i64 0], .slice none 0 0], []⟩ 8 (by kernel_rfl) (by kernel_rfl) (by kernel_rfl) (by kernel_rfl)) ?_
  intro W base args ds gs before hval0 hW hcnd hsz0 _
  have hval : ∀ (j : Nat) t v, Try.f14.params[j]? = some t → args[j]? = some v → Value.okWide Try.prog W .any base t v := hval0
  have hW' := hW
  obtain ⟨p, q, hA0, hV, rfl, hfz, hnd⟩ := hW
  have hA : DataW.TrodAll enc Try.prog W 0 (fun _ => true) true Try.f14.params.toList args.toList ds p := hA0
  rw [Try.params14] at hA hval
  obtain ⟨v0, vs0, d0, ds0, p0, q0, hargs, rfl, rfl, h0, r0⟩ := trodAll_cons hA
  obtain ⟨v1, vs1, d1, ds1, p1, q1, rfl, rfl, rfl, h1, r1⟩ := trodAll_cons r0
  obtain ⟨rfl, rfl, rfl⟩ := trodAll_nil r1
  obtain rfl : args = #[v0, v1] := by cases args; simp_all
  obtain ⟨rfl, rfl⟩ := trodVars_none hV
  have k0 := h0
  have lt0 : ∀ x ∈ p0, x.block < W.heap.size := by obtain ⟨m, hm⟩ := k0; exact DataW.trod_lt m _ _ _ hm
  obtain ⟨v0_0, v0_1, v0_2, _, _, _, n0, rfl, _, _, t0_0, t0_1, t0_2⟩ := open_agg3 Try.underlying54 (by kernel_rfl) (by kernel_rfl) (hval 0 54 v0 rfl rfl) h0
  obtain ⟨a0_0, rfl, w0_0⟩ := open_int1 Try.underlying3 t0_0
  obtain ⟨a0_1, rfl, w0_1⟩ := open_int1 Try.underlying3 t0_1
  obtain ⟨a0_2, rfl, w0_2⟩ := open_int1 Try.underlying3 t0_2
  have k1 := h1
  have lt1 : ∀ x ∈ p1, x.block < W.heap.size := by obtain ⟨m, hm⟩ := k1; exact DataW.trod_lt m _ _ _ hm
  obtain ⟨sa1, sn1, sc1, rfl⟩ := okWide_slice Try.underlying22 (hval 1 22 v1 rfl rfl)
  obtain ⟨m1, g1⟩ := h1
  obtain ⟨A1, c1, l1, e1, hr1, hc1, hm1, hg1⟩ := open_ints1 Try.underlying22 Try.underlying3 (by kernel_rfl) g1
  cases e1
  clear hA0 hval0 hsz0
  obtain ⟨k, hk⟩ := Pure.FnExactDoesFit a0_0 a0_1 a0_2 l1 w0_0 w0_1 w0_2 hm1 hg1
  refine (laws_FnExactDoesFit.calls k a0_0 a0_1 a0_2 _ _ l1 true W hr1 hc1 hk).mono fun e W' ⟨he, bel⟩ => ?_
  subst he
  exact ⟨_, rfl, _, _, _, [], _, [], hW', trodAll_mk1 (shut_bool Try.underlying4 _), (trodAll_cons_mk (Below.trod laidOut (by kernel_rfl) (of_decide_eq_true (by kernel_rfl)) k0 bel lt0) (trodAll_cons_mk (Below.trod laidOut (by kernel_rfl) (of_decide_eq_true (by kernel_rfl)) k1 bel lt1) trodAll_mk0)), rfl, bel.frame _, fun h => by cases h⟩
theorem over : Rows.fnExactDoesFitRow.holds Try.pinned (OpenSpec.ofChange Rows.fnExactDoesFitSpec) :=
  OpenClaim.holds_of_wide 14 Try.f14 rfl rfl rfl rfl rfl rfl rfl ⟨rfl, rfl, rfl, rfl, rfl⟩ rfl rfl rfl rfl rfl (by kernel_rfl) Try.func14 (by kernel_rfl)
    (of_decide_eq_true (by kernel_rfl)) (by unfold Func.isWrapper; first | (rw [if_pos (by decide +kernel)]; kernel_rfl) | (rw [if_neg (by decide +kernel)]; exact ⟨rfl, rfl⟩))
    (fun os started H enc _ => lifted os started H enc)
end Go.Proofs.Ytlkommjeflojjaa.fnExactDoesFit
namespace Go.Proofs.Ytlkommjeflojjaa
/-- The row, under a short name, for the claim. -/
theorem fnExactDoesFit_holds : Rows.FnExactDoesFitSaid := fnExactDoesFit.over
#print axioms fnExactDoesFit_holds
end Go.Proofs.Ytlkommjeflojjaa
