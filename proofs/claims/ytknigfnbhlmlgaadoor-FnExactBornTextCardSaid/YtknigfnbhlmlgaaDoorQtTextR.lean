/- The given card of FnExactBornText: at every input the law's Go function returns true, the argument reads behind the call as before; the listed tables are those of the program's own text. No condition. -/
import Derived.Test.YtknigfnbhlmlgaaDoorRows
import Derived.Test.YtknigfnbhlmlgaaDoorCards
import Derived.Test.YtknigfnbhlmlgaaDoorTie
import Derived.Test.YtknigfnbhlmlgaaDoorQtTiedR
import Derived.Test.YtknigfnbhlmlgaaDoorQtTextP
import Derived.Test.YtknigfnbhlmlgaaDoorQtHarnessT
import Derived.Test.YtknigfnbhlmlgaaDoorQtOpen
import Derived.Test.YtknigfnbhlmlgaaDoorQtHarnessE
import Derived.SevenTiedAt
import Derived.WalkKit
import Derived.ChangeOld
import Derived.Below
import Derived.SizedLaws

import Derived.Test.YtknigfnbhlmlgaaDoorT3
import Derived.Test.YtknigfnbhlmlgaaDoorT4
namespace Go.Proofs.YtknigfnbhlmlgaaDoor.fnExactBornText
open Go.Joins Go.ChangeShapes Go.WideShapes Go.ChangeAt Go.RowKit Go.Proofs.YtknigfnbhlmlgaaDoor.Q Go.Proofs.YtknigfnbhlmlgaaDoor.T Go.Proofs.YtknigfnbhlmlgaaDoorW.PrintWords Go.Proofs.YtknigfnbhlmlgaaDoorW.PrintLast
set_option linter.unusedVariables false

theorem pureBorn (l : List Int) : ∃ k, l.length ≤ 1048576 → laws_toIntS.f k l = some l ∧ spec_BornText.f k l = some (bornOut (born l) l, born l) ∧ impl_AreBirths.f l = some (born l) ∧ (born l = true → 1 ≤ l.length ∧ l.length ≤ 10 ∧ ∀ x ∈ l, 0 ≤ x ∧ x ≤ 2900) ∧ laws_eqIntS.f k l l = some true := by
  by_cases hl : l.length ≤ 1048576
  · obtain ⟨k1, h1⟩ := toIntS_id l hl
    obtain ⟨k2, h2⟩ := BornText_at l hl
    obtain ⟨k3, h3⟩ := eqIntS_self l (by omega)
    refine ⟨max k1 (max k2 k3), fun _ => ⟨h1 _ (by omega), h2 _ (by omega), v_AreBirths l, fun hb => ?_, h3 _ (by omega)⟩⟩
    obtain ⟨⟨a, b⟩, c⟩ := born_iff.mp hb
    exact ⟨a, b, c⟩
  · exact ⟨0, fun h => absurd h hl⟩
set_option maxHeartbeats 1000000 in
set_option maxRecDepth 100000 in
theorem lifted (os : Os) (started : os.Started) (H : Type) (enc : TypeId × Value → H) :
    ReturnsInHanded {} Tryd.checked os 3 .any (fun w args => (Rows.fnExactBornTextSpec.pre enc Tryd.prog Tryd.f3 [] false w args ∧ laidMetH Tryd.prog Rows.fnExactBornTextRow.laid w) ∧ sizedMet enc Tryd.prog Tryd.f3 (OpenSpec.ofChange Rows.fnExactBornTextSpec) false w args)
      (Rows.fnExactBornTextSpec.post enc Tryd.prog Tryd.f3 false true false false) := by
  refine returnsInHanded_of_change_and (C := Tryd.checked) (X := fun w _ => laidMetH Tryd.prog Rows.fnExactBornTextRow.laid w) (fun _ _ _ hh h => h.of_heap hh) own started (by kernel_rfl) Tryd.func3
    (ChangeSpec.witness_shaped (enc := enc) (C := Tryd.checked) (os := os) (X := fun w _ => laidMetH Tryd.prog Rows.fnExactBornTextRow.laid w) false (World.doorLaid Tryd.prog 400 os) #[.slice none 0 0] 8 rfl (World.shaped_of_RefB (by kernel_rfl) (by kernel_rfl)) (by kernel_rfl) (by kernel_rfl) (by kernel_rfl) (door_met os _)) ?_
  intro W base args ds gs before hval0 hW _ hsz0 hL _
  have hval : ∀ (j : Nat) t v, Tryd.f3.params[j]? = some t → args[j]? = some v → Value.okWide Tryd.prog W .any base t v := hval0
  have hT := tab_of_laid hL
  have hW' := hW
  obtain ⟨p, q, hA0, hV, rfl, hfz, hnd⟩ := hW
  have hA : DataW.TrodAll enc Tryd.prog W 0 (fun _ => true) true Tryd.f3.params.toList args.toList ds p := hA0
  rw [Tryd.params3] at hA hval
  obtain ⟨v0, vs0, d0, ds0, p0, q0, hargs, rfl, rfl, h0, r0⟩ := trodAll_cons hA
  obtain ⟨rfl, rfl, rfl⟩ := trodAll_nil r0
  obtain rfl : args = #[v0] := by cases args; simp_all
  obtain ⟨rfl, rfl⟩ := trodVars_none hV
  have k0 := h0
  have lt0 : ∀ x ∈ p0, x.block < W.heap.size := by obtain ⟨m, hm⟩ := k0; exact DataW.trod_lt m _ _ _ hm
  obtain ⟨sa0, sn0, sc0, rfl⟩ := okWide_slice Tryd.underlying22 (hval 0 22 v0 rfl rfl)
  obtain ⟨m0, g0⟩ := h0
  obtain ⟨A0, c0, l0, e0, hr0, hc0, hm0, hg0⟩ := open_ints1 Tryd.underlying22 Tryd.underlying3 (by kernel_rfl) g0
  cases e0
  clear hA0 hval0 hsz0 hL
  obtain ⟨k, hk⟩ := pureBorn l0
  refine (lawBornText_calls k _ _ l0 (born l0) W hr0 hc0 hT hk).mono fun e W' ⟨he, bel⟩ => ?_
  subst he
  exact ⟨_, rfl, _, _, _, [], _, [], hW', trodAll_mk1 (shut_bool Tryd.underlying4 _), (trodAll_cons_mk (Below.trod laidOut (by kernel_rfl) (of_decide_eq_true (by kernel_rfl)) k0 bel lt0) trodAll_mk0), rfl, bel.frame _, fun h => by cases h⟩
theorem over : Rows.FnExactBornTextSaid :=
  OpenClaim.holds_of_wide 3 Tryd.f3 rfl rfl rfl rfl rfl rfl rfl ⟨rfl, rfl, rfl, rfl, rfl⟩ rfl rfl rfl rfl rfl (by kernel_rfl) Tryd.func3 (by kernel_rfl)
    (of_decide_eq_true (by kernel_rfl)) (by unfold Func.isWrapper; first | (rw [if_pos (by decide +kernel)]; kernel_rfl) | (rw [if_neg (by decide +kernel)]; exact ⟨rfl, rfl⟩))
    (fun os started H enc _ => lifted os started H enc)
end Go.Proofs.YtknigfnbhlmlgaaDoor.fnExactBornText
namespace Go.Proofs.YtknigfnbhlmlgaaDoor
open Go
/-- The tied card. -/
theorem fnExactBornText_card : Rows.FnExactBornTextCardSaid :=
  Claim7.holds_tied_plain_at .later [] [.data, .data, .data] true (true, "b61bc7c34dab51d5acb03b3e7f5b1cc9621fe39059dca35beea97ceb8e4c72e4") true
    fnExactBornText.over (fun _ h => by cases h) (by kernel_rfl) (fun _ h => by cases h) fnExactBornText_row_tie rfl ⟨rfl, rfl⟩ (by kernel_rfl) rfl
    (fun f fn hf hfn => by
      obtain rfl : f = 3 := Option.some.inj ((show Tryd.prog.funcNamed "loop.example/g01369/laws.FnExactBornText" = some 3 by kernel_rfl).symm.trans hf) |>.symm
      obtain rfl : fn = Tryd.f3 := (Option.some.inj (Tryd.func3.symm.trans hfn)).symm
      exact ⟨by kernel_rfl, fun j t ht => by
        rw [Tryd.params3] at ht
        have hm : t ∈ [22] := by simpa using Array.mem_of_getElem? ht
        have hall : ([22].all fun u => !Tryd.prog.wantsStandIn u) = true := by kernel_rfl
        exact (show Tryd.prog.wantsStandIn t = false by simpa using List.all_eq_true.1 hall t hm)⟩)
    (by kernel_rfl)
#print axioms fnExactBornText_card
end Go.Proofs.YtknigfnbhlmlgaaDoor
