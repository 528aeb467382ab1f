/- The given card of FnExactBirthsText: at every input the law's Go function returns true, the argument reads behind the call as before; the listed tables are those of the program's own text. No condition. -/
import Derived.Test.YtknigfnbhlmlgaaDoorRows
import Derived.Test.YtknigfnbhlmlgaaDoorCards
import Derived.Test.YtknigfnbhlmlgaaDoorTie
import Derived.Test.YtknigfnbhlmlgaaDoorQbTiedR
import Derived.Test.YtknigfnbhlmlgaaDoorQbBirthsP
import Derived.Test.YtknigfnbhlmlgaaDoorQbOpen
import Derived.SevenTiedAt
import Derived.WalkKit
import Derived.ChangeOld
import Derived.Below
import Derived.SizedLaws

import Derived.Test.YtknigfnbhlmlgaaDoorR0
namespace Go.Proofs.YtknigfnbhlmlgaaDoor.fnExactBirthsText
open Go.Joins Go.ChangeShapes Go.WideShapes Go.ChangeAt Go.RowKit Go.Proofs.YtknigfnbhlmlgaaDoor.Q Go.Proofs.YtknigfnbhlmlgaaDoor.R Go.Proofs.YtknigfnbhlmlgaaDoorW.PrintWords Go.Proofs.YtknigfnbhlmlgaaDoorW.PrintLast
set_option linter.unusedVariables false

set_option maxHeartbeats 1000000 in
set_option maxRecDepth 100000 in
theorem lifted (os : Os) (started : os.Started) (H : Type) (enc : TypeId × Value → H) :
    ReturnsInHanded {} Tryd.checked os 4 .any (fun w args => (Rows.fnExactBirthsTextSpec.pre enc Tryd.prog Tryd.f4 [] false w args ∧ laidMetH Tryd.prog Rows.fnExactBornTextRow.laid w) ∧ sizedMet enc Tryd.prog Tryd.f4 (OpenSpec.ofChange Rows.fnExactBirthsTextSpec) false w args)
      (Rows.fnExactBirthsTextSpec.post enc Tryd.prog Tryd.f4 false true false false) := by
  refine returnsInHanded_of_change_and (C := Tryd.checked) (X := fun w _ => laidMetH Tryd.prog Rows.fnExactBornTextRow.laid w) (fun _ _ _ hh h => h.of_heap hh) own started (by kernel_rfl) Tryd.func4
    (ChangeSpec.witness_shaped (enc := enc) (C := Tryd.checked) (os := os) (X := fun w _ => laidMetH Tryd.prog Rows.fnExactBornTextRow.laid w) false (World.doorLaid Tryd.prog 400 os) #[.slice none 0 0] 8 rfl (World.shaped_of_RefB (by kernel_rfl) (by kernel_rfl)) (by kernel_rfl) (by kernel_rfl) (by kernel_rfl) (door_met os _)) ?_
  intro W base args ds gs before hval0 hW _ hsz0 hL _
  have hval : ∀ (j : Nat) t v, Tryd.f4.params[j]? = some t → args[j]? = some v → Value.okWide Tryd.prog W .any base t v := hval0
  have hT := tab_of_laid hL
  have hW' := hW
  obtain ⟨p, q, hA0, hV, rfl, hfz, hnd⟩ := hW
  have hA : DataW.TrodAll enc Tryd.prog W 0 (fun _ => true) true Tryd.f4.params.toList args.toList ds p := hA0
  rw [Tryd.params4] at hA hval
  obtain ⟨v0, vs0, d0, ds0, p0, q0, hargs, rfl, rfl, h0, r0⟩ := trodAll_cons hA
  obtain ⟨rfl, rfl, rfl⟩ := trodAll_nil r0
  obtain rfl : args = #[v0] := by cases args; simp_all
  obtain ⟨rfl, rfl⟩ := trodVars_none hV
  have k0 := h0
  have lt0 : ∀ x ∈ p0, x.block < W.heap.size := by obtain ⟨m, hm⟩ := k0; exact DataW.trod_lt m _ _ _ hm
  obtain ⟨sa0, sn0, sc0, rfl⟩ := okWide_slice Tryd.underlying28 (hval 0 28 v0 rfl rfl)
  obtain ⟨m0, g0⟩ := h0
  obtain ⟨A0, c0, l0, e0, hr0, hc0, hm0, hg0⟩ := open_rows k60 z60 (fun _ => True) Tryd.underlying28 (by kernel_rfl) (fun m cs y hy => by
    obtain ⟨a, b, rfl⟩ := cells_int2 Tryd.underlying60 (by kernel_rfl) (by kernel_rfl) Tryd.underlying3 Tryd.underlying3 hy
    exact ⟨⟨a, b⟩, k60_mk _ ⟨a, b⟩, trivial⟩) g0
  cases e0
  clear hA0 hval0 hsz0 hL
  obtain ⟨k, s, hs, hk⟩ := pureBirths l0 hm0
  refine (lawBirthsText_calls k _ _ l0 (l0.map cv_d) s (d_good (l0.map cv_d)) W hr0 hc0 hT hs hk).mono fun e W' ⟨he, bel⟩ => ?_
  subst he
  exact ⟨_, rfl, _, _, _, [], _, [], hW', trodAll_mk1 (shut_bool Tryd.underlying4 _), (trodAll_cons_mk (Below.trod laidOut (by kernel_rfl) (of_decide_eq_true (by kernel_rfl)) k0 bel lt0) trodAll_mk0), rfl, bel.frame _, fun h => by cases h⟩
theorem over : Rows.FnExactBirthsTextSaid :=
  OpenClaim.holds_of_wide 4 Tryd.f4 rfl rfl rfl rfl rfl rfl rfl ⟨rfl, rfl, rfl, rfl, rfl⟩ rfl rfl rfl rfl rfl (by kernel_rfl) Tryd.func4 (by kernel_rfl)
    (of_decide_eq_true (by kernel_rfl)) (by unfold Func.isWrapper; first | (rw [if_pos (by decide +kernel)]; kernel_rfl) | (rw [if_neg (by decide +kernel)]; exact ⟨rfl, rfl⟩))
    (fun os started H enc _ => lifted os started H enc)
end Go.Proofs.YtknigfnbhlmlgaaDoor.fnExactBirthsText
namespace Go.Proofs.YtknigfnbhlmlgaaDoor
open Go
/-- The tied card. -/
theorem fnExactBirthsText_card : Rows.FnExactBirthsTextCardSaid :=
  Claim7.holds_tied_plain_at .later [] [.data, .data, .data] true (true, "b61bc7c34dab51d5acb03b3e7f5b1cc9621fe39059dca35beea97ceb8e4c72e4") true
    fnExactBirthsText.over (fun _ h => by cases h) (by kernel_rfl) (fun _ h => by cases h) fnExactBirthsText_row_tie rfl ⟨rfl, rfl⟩ (by kernel_rfl) rfl
    (fun f fn hf hfn => by
      obtain rfl : f = 4 := Option.some.inj ((show Tryd.prog.funcNamed "loop.example/g01369/laws.FnExactBirthsText" = some 4 by kernel_rfl).symm.trans hf) |>.symm
      obtain rfl : fn = Tryd.f4 := (Option.some.inj (Tryd.func4.symm.trans hfn)).symm
      exact ⟨by kernel_rfl, fun j t ht => by
        rw [Tryd.params4] at ht
        have hm : t ∈ [28] := by simpa using Array.mem_of_getElem? ht
        have hall : ([28].all fun u => !Tryd.prog.wantsStandIn u) = true := by kernel_rfl
        exact (show Tryd.prog.wantsStandIn t = false by simpa using List.all_eq_true.1 hall t hm)⟩)
    (by kernel_rfl)
#print axioms fnExactBirthsText_card
end Go.Proofs.YtknigfnbhlmlgaaDoor
