/- The given statement FnExactIsDeskSaid: at every input the law's Go function returns true, and each argument reads behind the call as before. No condition. -/
import Derived.Test.YtlkommjeflojjaaRows
import Derived.Test.YtlkommjeflojjaaI9
import Derived.Test.YtlkommjeflojjaaQiOpen
import Derived.Test.YtlkommjeflojjaaPureFnExactIsDesk
import Derived.WalkKit
import Derived.ProofKit
import Derived.OpenShut
import Derived.ShutString
import Derived.ChangeOld
import Derived.Below
import Derived.SizedLaws
namespace Go.Proofs.Ytlkommjeflojjaa.fnExactIsDesk
open Go.Joins Go.ChangeShapes Go.WideShapes Go.ChangeAt Go.RowKit Go.Proofs.Ytlkommjeflojjaa.Q Go.Proofs.Ytlkommjeflojjaa.I Go.Proofs.YtlkommjeflojjaaW.PrintWords Go.Proofs.YtlkommjeflojjaaW.PrintLast
set_option linter.unusedVariables false
theorem own : ownKnob Try.prog.godebug = none := by kernel_rfl
theorem laidOut : laidOutB Try.prog = true := by kernel_rfl
set_option maxHeartbeats 1000000 in
set_option maxRecDepth 100000 in
theorem lifted (os : Os) (started : os.Started) (H : Type) (enc : TypeId × Value → H) :
    ReturnsInHanded {} Try.checked os 13 .any (Rows.fnExactIsDeskSpec.pre6 enc Try.prog Try.f13 Rows.fnExactIsDeskRow.domain false) (Rows.fnExactIsDeskSpec.post enc Try.prog Try.f13 false true false false) := by
  refine returnsInHanded_of_change_sized (C := Try.checked) own started (by kernel_rfl) Try.func13
    (ChangeSpec.witness6 (enc := enc) (C := Try.checked) false ⟨#[], #[.agg #[.slice none 0 0, .slice none 0 0, .int .i64 0, .string ByteArray.empty, .slice none 0 0]], []⟩ 8 (by kernel_rfl) (by kernel_rfl) (by kernel_rfl) (by kernel_rfl)) ?_
  intro W base args ds gs before hval0 hW hcnd hsz0 _
  have hval : ∀ (j : Nat) t v, Try.f13.params[j]? = some t → args[j]? = some v → Value.okWide Try.prog W .any base t v := hval0
  have hW' := hW
  obtain ⟨p, q, hA0, hV, rfl, hfz, hnd⟩ := hW
  have hA : DataW.TrodAll enc Try.prog W 0 (fun _ => true) true Try.f13.params.toList args.toList ds p := hA0
  rw [Try.params13] at hA hval
  obtain ⟨v0, vs0, d0, ds0, p0, q0, hargs, rfl, rfl, h0, r0⟩ := trodAll_cons hA
  obtain ⟨rfl, rfl, rfl⟩ := trodAll_nil r0
  obtain rfl : args = #[v0] := by cases args; simp_all
  obtain ⟨rfl, rfl⟩ := trodVars_none hV
  have k0 := h0
  have lt0 : ∀ x ∈ p0, x.block < W.heap.size := by obtain ⟨m, hm⟩ := k0; exact DataW.trod_lt m _ _ _ hm
  obtain ⟨v0_0, v0_1, v0_2, v0_3, v0_4, _, _, _, _, _, n0, rfl, _, _, t0_0, t0_1, t0_2, t0_3, t0_4⟩ := open_agg5 Try.underlying72 (by kernel_rfl) (by kernel_rfl) (hval 0 72 v0 rfl rfl) h0
  obtain ⟨A0_0, c0_0, l0_0, rfl, hr0_0, hc0_0, hm0_0, hg0_0⟩ := open_ints1 Try.underlying22 Try.underlying3 (by kernel_rfl) t0_0
  obtain ⟨A0_1, c0_1, l0_1, rfl, hr0_1, hc0_1, hm0_1, _⟩ := open_rows k120 z120 (fun _ => True) Try.underlying69 (by kernel_rfl) (fun m cs y hy => by
    obtain ⟨a, b, rfl⟩ := cells_int2 Try.underlying120 (by kernel_rfl) (by kernel_rfl) Try.underlying3 Try.underlying3 hy
    exact ⟨⟨a, b⟩, ⟨_, _, rfl, rfl, rfl⟩, trivial⟩) t0_1
  obtain ⟨a0_2, rfl, w0_2⟩ := open_int1 Try.underlying3 t0_2
  obtain ⟨a0_3, rfl, y0_3⟩ := open_str1 Try.underlying9 t0_3
  obtain ⟨A0_4, c0_4, l0_4, rfl, hr0_4, hc0_4, hm0_4, _⟩ := open_rows k122 z122 (fun _ => True) Try.underlying70 (by kernel_rfl) (fun m cs y hy => by
    obtain ⟨a, b, rfl⟩ := cells_int2 Try.underlying122 (by kernel_rfl) (by kernel_rfl) Try.underlying3 Try.underlying3 hy
    exact ⟨⟨a, b⟩, ⟨_, _, rfl, rfl, rfl⟩, trivial⟩) t0_4
  clear hA0 hval0 hsz0
  obtain ⟨k, hk⟩ := Pure.FnExactIsDesk l0_0 l0_1 a0_2 a0_3 l0_4 w0_2 hm0_0 hm0_1 hm0_4 y0_3 hg0_0
  refine (laws_FnExactIsDesk.calls k _ _ l0_0 _ _ l0_1 a0_2 a0_3 _ _ l0_4 true W hr0_0 hc0_0 hr0_1 hc0_1 hr0_4 hc0_4 hk).mono fun e W' ⟨he, bel⟩ => ?_
  subst he
  exact ⟨_, rfl, _, _, _, [], _, [], hW', trodAll_mk1 (shut_bool Try.underlying4 _), (trodAll_cons_mk (Below.trod laidOut (by kernel_rfl) (of_decide_eq_true (by kernel_rfl)) k0 bel lt0) trodAll_mk0), rfl, bel.frame _, fun h => by cases h⟩
theorem over : Rows.fnExactIsDeskRow.holds Try.pinned (OpenSpec.ofChange Rows.fnExactIsDeskSpec) :=
  OpenClaim.holds_of_wide 13 Try.f13 rfl rfl rfl rfl rfl rfl rfl ⟨rfl, rfl, rfl, rfl, rfl⟩ rfl rfl rfl rfl rfl (by kernel_rfl) Try.func13 (by kernel_rfl)
    (of_decide_eq_true (by kernel_rfl)) (by unfold Func.isWrapper; first | (rw [if_pos (by decide +kernel)]; kernel_rfl) | (rw [if_neg (by decide +kernel)]; exact ⟨rfl, rfl⟩))
    (fun os started H enc _ => lifted os started H enc)
end Go.Proofs.Ytlkommjeflojjaa.fnExactIsDesk
namespace Go.Proofs.Ytlkommjeflojjaa
/-- The row, under a short name, for the claim. -/
theorem fnExactIsDesk_holds : Rows.FnExactIsDeskSaid := fnExactIsDesk.over
#print axioms fnExactIsDesk_holds
end Go.Proofs.Ytlkommjeflojjaa
