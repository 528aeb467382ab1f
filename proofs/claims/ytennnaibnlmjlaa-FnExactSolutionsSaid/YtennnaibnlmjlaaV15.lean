/- The walks of the Go functions that these laws reach: each is proved to do what a plain Lean function says. -/
import Derived.Test.YtennnaibnlmjlaaV0
import Derived.Test.YtennnaibnlmjlaaV1
import Derived.Test.YtennnaibnlmjlaaV2
import Derived.Test.YtennnaibnlmjlaaV7
import Derived.Test.YtennnaibnlmjlaaV8
import Derived.Test.YtennnaibnlmjlaaV13
import Derived.Test.YtennnaibnlmjlaaV14
namespace Go.Proofs.Ytennnaibnlmjlaa.V
open Go.RowKit Go.Proofs.YtennnaibnlmjlaaW.PrintWords Go.Proofs.YtennnaibnlmjlaaW.PrintLast Go.Proofs.YtennnaibnlmjlaaW.PrintMore
attribute [local go_sem] max2_int min2_int max_two min_two max_three min_three max_four min_four   -- for this text's walks alone
set_option linter.unusedVariables false
set_option linter.unusedSimpArgs false

/-! ### laws_heldIntS: function 14 -/
def laws_heldIntS.l0 : Nat → List Int → Int → Int → Option (Int)
  | 0, _, _, _ => none
  | k + 1, x0, x1, x5 => if x5 < (x0.length : Int) then (if 0 ≤ x5 then (if (rd x0 x5) = x1 then (laws_heldIntS.l0 k x0 (wrap64 (x1 + 1)) (wrap64 (x5 + 1))) else (none)) else (none)) else (some x1)
def laws_heldIntS.f (k : Nat) (l0 : List Int) (a1 : Int) : Option (Int) := laws_heldIntS.l0 k l0 a1 0
theorem laws_heldIntS.mono_l : ∀ k, (∀ y0 y1 y2, LeO (laws_heldIntS.l0 k y0 y1 y2) (laws_heldIntS.l0 (k + 1) y0 y1 y2))
  | 0 => fun _ _ _ r h => by simp [laws_heldIntS.l0] at h
  | k + 1 => by
    have ih0 := laws_heldIntS.mono_l k
    · intro y0 y1 y2
      unfold laws_heldIntS.l0
      repeat' first
      | (with_reducible exact ih0 _ _ _)
      | (with_reducible exact LeO.refl _)
      | (with_reducible exact LeO.none _)
      | (with_reducible refine LeO.ite ?_ ?_)
      | (with_reducible refine LeO.bind ?_ (fun _ => ?_))
      | exact ih0 _ _ _
      | exact LeO.none _
      | refine LeO.ite ?_ ?_
      | refine LeO.bind ?_ (fun _ => ?_)
theorem laws_heldIntS.mono : ∀ a0 a1 k, LeO (laws_heldIntS.f k a0 a1) (laws_heldIntS.f (k + 1) a0 a1) := by
  intro a0 a1 k
  have ih0 := laws_heldIntS.mono_l k
  unfold laws_heldIntS.f
  repeat' first
      | (with_reducible exact ih0 _ _ _)
      | (with_reducible exact LeO.refl _)
      | (with_reducible exact LeO.none _)
      | (with_reducible refine LeO.ite ?_ ?_)
      | (with_reducible refine LeO.bind ?_ (fun _ => ?_))
      | exact ih0 _ _ _
      | exact LeO.none _
      | refine LeO.ite ?_ ?_
      | refine LeO.bind ?_ (fun _ => ?_)
set_option maxHeartbeats 8000000 in
set_option maxRecDepth 100000 in
theorem laws_heldIntS.calls (k : Nat) (A0 : Option Addr) (c0 : Nat) (l0 : List Int) (a1 : Int) (r : Int) (w : World) (hr0 : Kd.C (Kd.int .i64) w A0 l0.length l0) (hc0 : l0.length ≤ c0) (h : laws_heldIntS.f k l0 a1 = some r) :
    Calls Try.prog 14 #[.slice A0 l0.length c0, .int .i64 a1] w fun e w' => e = .returned (.int .i64 r) ∧ Drawn0 w w' := by
  have HR0 := Aside0.mk hr0
  have HC0 := Aside0.mk hc0
  clear hr0 hc0
  have H : (laws_heldIntS.l0 k l0 a1 0) = some r := h
  clear h
  have H' := Aside0.mk H
  clear H
  go_enter Try.func14, Try.ntmps14
  go_wp2
  go_loopg [1, 5] k (fun kq v1 v5 w' => ∃ (x1_1 : Int) (x5_1 : Int), v1 = .int .i64 x1_1 ∧ v5 = .int .i64 x5_1 ∧ Aside0 (laws_heldIntS.l0 kq l0 x1_1 x5_1 = some r) ∧ Aside0 (kq ≤ k) ∧ Drawn0 w w')
  case atStart => exact ⟨(a1), (0), (by first | rfl | (simp; done) | (simp [*]; done)), (by first | rfl | (simp; done) | (simp [*]; done)), H', ⟨Nat.le_refl _⟩, by repeat (first | exact Drawn0.refl _ | apply Drawn0.step)⟩
  case round =>
    clear H'
    try clear c1
    try clear p2
    obtain ⟨x1_1, x5_1, rfl, rfl, HA, HK1, ⟨m1, rfl⟩⟩ := hrel
    cases gk with
    | zero => exact absurd HA.out (by simp [laws_heldIntS.l0])
    | succ k1 =>
      have H := HA.out
      clear HA
      simp only [laws_heldIntS.l0] at H
      by_cases c3 : x5_1 < (l0.length : Int)
      · rw [if_pos c3] at H
        have c3b0 : decide (x5_1 < (l0.length : Int)) = true := decide_eq_true c3
        clear c3
        by_cases c4 : 0 ≤ x5_1
        · rw [if_pos c4] at H
          have c4b0 : decide (0 ≤ x5_1) = true := decide_eq_true c4
          clear c4
          by_cases c5 : (rd l0 x5_1) = x1_1
          · rw [if_pos c5] at H
            have c5b0 : ((rd l0 x5_1) == x1_1) = true := beq_iff_eq.mpr c5
            have c5b1 : ((rd l0 x5_1) != x1_1) = false := bne_eq_false_iff_eq.mpr c5
            clear c5
            have H' := Aside0.mk H
            clear H
            have p230 : 0 ≤ (x5_1 : Int) := of_decide_eq_true (by first | (with_reducible assumption) | assumption)
            have q230 : x5_1 < (l0.length : Int) := of_decide_eq_true (by first | (with_reducible assumption) | assumption)
            obtain ⟨ad230, e230, hx230_0⟩ := Kd.at_int HR0.out x5_1 p230 q230
            cases e230
            replace p230 := eq_true p230
            replace q230 := eq_true q230
            go_wp2
            go_roundg k1
            case measure => have := HK1.out; omega
            case rel => exact ⟨(wrap64 (x1_1 + 1)), (wrap64 (x5_1 + 1)), (by first | rfl | (simp; done) | (simp [*]; done)), (by first | rfl | (simp; done) | (simp [*]; done)), H', ⟨by have := HK1.out; omega⟩, by repeat (first | exact Drawn0.refl _ | apply Drawn0.step)⟩
          · rw [if_neg c5] at H
            exact absurd H (by simp)
        · rw [if_neg c4] at H
          exact absurd H (by simp)
      · rw [if_neg c3] at H
        have c3b0 : decide (x5_1 < (l0.length : Int)) = false := decide_eq_false c3
        clear c3
        obtain rfl := Option.some.inj H
        go_wp2
        go_ret
        exact ⟨by first | rfl | (simp; done) | (simp [*]; done), by repeat (first | exact Drawn0.refl _ | apply Drawn0.step)⟩

/-! ### laws_heldIntSS: function 26 -/
def laws_heldIntSS.l0 : Nat → List (List Int) → Int → Int → Option (Int)
  | 0, _, _, _ => none
  | k + 1, x0, x1, x5 => if x5 < (x0.length : Int) then (if 0 ≤ x5 then ((laws_heldIntS.f k (rd_L4 x0 x5) x1).bind fun t232 => (if t232 < 0 then (none) else (laws_heldIntSS.l0 k x0 t232 (wrap64 (x5 + 1))))) else (none)) else (some x1)
def laws_heldIntSS.f (k : Nat) (l0 : List (List Int)) (a1 : Int) : Option (Int) := laws_heldIntSS.l0 k l0 a1 0
theorem laws_heldIntSS.mono_l : ∀ k, (∀ y0 y1 y2, LeO (laws_heldIntSS.l0 k y0 y1 y2) (laws_heldIntSS.l0 (k + 1) y0 y1 y2))
  | 0 => fun _ _ _ r h => by simp [laws_heldIntSS.l0] at h
  | k + 1 => by
    have ih0 := laws_heldIntSS.mono_l k
    · intro y0 y1 y2
      unfold laws_heldIntSS.l0
      repeat' first
      | (with_reducible exact ih0 _ _ _)
      | (with_reducible exact laws_heldIntS.mono _ _ _)
      | (with_reducible exact LeO.refl _)
      | (with_reducible exact LeO.none _)
      | (with_reducible refine LeO.ite ?_ ?_)
      | (with_reducible refine LeO.bind ?_ (fun _ => ?_))
      | exact ih0 _ _ _
      | exact laws_heldIntS.mono _ _ _
      | exact LeO.none _
      | refine LeO.ite ?_ ?_
      | refine LeO.bind ?_ (fun _ => ?_)
theorem laws_heldIntSS.mono : ∀ a0 a1 k, LeO (laws_heldIntSS.f k a0 a1) (laws_heldIntSS.f (k + 1) a0 a1) := by
  intro a0 a1 k
  have ih0 := laws_heldIntSS.mono_l k
  unfold laws_heldIntSS.f
  repeat' first
      | (with_reducible exact ih0 _ _ _)
      | (with_reducible exact laws_heldIntS.mono _ _ _)
      | (with_reducible exact LeO.refl _)
      | (with_reducible exact LeO.none _)
      | (with_reducible refine LeO.ite ?_ ?_)
      | (with_reducible refine LeO.bind ?_ (fun _ => ?_))
      | exact ih0 _ _ _
      | exact laws_heldIntS.mono _ _ _
      | exact LeO.none _
      | refine LeO.ite ?_ ?_
      | refine LeO.bind ?_ (fun _ => ?_)
set_option maxHeartbeats 8000000 in
set_option maxRecDepth 100000 in
theorem laws_heldIntSS.calls (k : Nat) (A0 : Option Addr) (c0 : Nat) (l0 : List (List Int)) (a1 : Int) (r : Int) (w : World) (hr0 : Kd.C (Kd.slice 3 (Kd.int .i64)) w A0 l0.length l0) (hc0 : l0.length ≤ c0) (h : laws_heldIntSS.f k l0 a1 = some r) :
    Calls Try.prog 26 #[.slice A0 l0.length c0, .int .i64 a1] w fun e w' => e = .returned (.int .i64 r) ∧ Drawn0 w w' := by
  have HR0 := Aside0.mk hr0
  have HC0 := Aside0.mk hc0
  clear hr0 hc0
  have H : (laws_heldIntSS.l0 k l0 a1 0) = some r := h
  clear h
  have H' := Aside0.mk H
  clear H
  go_enter Try.func26, Try.ntmps26
  go_wp2
  go_loopg [1, 5] k (fun kq v1 v5 w' => ∃ (x1_1 : Int) (x5_1 : Int), v1 = .int .i64 x1_1 ∧ v5 = .int .i64 x5_1 ∧ Aside0 (laws_heldIntSS.l0 kq l0 x1_1 x5_1 = some r) ∧ Aside0 (kq ≤ k) ∧ Drawn0 w w')
  case atStart => exact ⟨(a1), (0), (by first | rfl | (simp; done) | (simp [*]; done)), (by first | rfl | (simp; done) | (simp [*]; done)), H', ⟨Nat.le_refl _⟩, by repeat (first | exact Drawn0.refl _ | apply Drawn0.step)⟩
  case round =>
    clear H'
    try clear c2
    try clear p2
    obtain ⟨x1_1, x5_1, rfl, rfl, HA, HK1, ⟨m1, rfl⟩⟩ := hrel
    cases gk with
    | zero => exact absurd HA.out (by simp [laws_heldIntSS.l0])
    | succ k1 =>
      have H := HA.out
      clear HA
      simp only [laws_heldIntSS.l0] at H
      by_cases c3 : x5_1 < (l0.length : Int)
      · rw [if_pos c3] at H
        have c3b0 : decide (x5_1 < (l0.length : Int)) = true := decide_eq_true c3
        clear c3
        by_cases c4 : 0 ≤ x5_1
        · rw [if_pos c4] at H
          have c4b0 : decide (0 ≤ x5_1) = true := decide_eq_true c4
          clear c4
          replace H := Option.bind_eq_some_iff.mp H
          obtain ⟨t232, A50, H⟩ := H
          replace H : (if t232 < 0 then (none) else (laws_heldIntSS.l0 k1 l0 t232 (wrap64 (x5_1 + 1)))) = some r := H
          have A5 := Aside0.mk A50
          clear A50
          by_cases c6 : t232 < 0
          · rw [if_pos c6] at H
            exact absurd H (by simp)
          · rw [if_neg c6] at H
            have c6b0 : decide (t232 < 0) = false := decide_eq_false c6
            clear c6
            have H' := Aside0.mk H
            clear H
            have p231 : 0 ≤ (x5_1 : Int) := of_decide_eq_true (by first | (with_reducible assumption) | assumption)
            have q231 : x5_1 < (l0.length : Int) := of_decide_eq_true (by first | (with_reducible assumption) | assumption)
            obtain ⟨ad231, A231_0, c231_0, e231, hx231_0, hl231_0, hi231_0⟩ := at_L4 HR0.out x5_1 p231 q231
            cases e231
            have HR231_0 := Aside0.mk hi231_0
            have HC231_0 := Aside0.mk hl231_0
            clear hi231_0 hl231_0
            replace p231 := eq_true p231
            replace q231 := eq_true q231
            go_wp2_with (first | ((with_reducible refine gate_callee (f := 14) rfl ?_); refine goesL_ (some 17) rfl rfl Try.func14 (by kernel_rfl) rfl #[.slice A231_0 (rd_L4 l0 x5_1).length c231_0, .int .i64 x1_1] rfl (by (try simp only [List.map_toArray, List.map_cons, List.map_nil]); first | done | rfl | (simp only [List.length_drop, List.length_take]; rfl)) ?_; (with_reducible refine (laws_heldIntS.calls k1 _ _ (rd_L4 l0 x5_1) x1_1 t232 _ ?side1 ?side2 A5.out).mono ?_); (case side1 => repeat (first | exact HR231_0.out | (with_reducible refine Kd.C_alloc ?_ _) | (with_reducible refine Kd.C_drewN ?_ _) | (with_reducible refine Kd.C_drew ?_))); (case side2 => exact HC231_0.out); rintro e w' ⟨rfl, ⟨nd, rfl⟩⟩; refine ⟨_, rfl, ?_⟩))
            go_roundg k1
            case measure => have := HK1.out; omega
            case rel => exact ⟨(t232), (wrap64 (x5_1 + 1)), (by first | rfl | (simp; done) | (simp [*]; done)), (by first | rfl | (simp; done) | (simp [*]; done)), H', ⟨by have := HK1.out; omega⟩, by repeat (first | exact Drawn0.refl _ | apply Drawn0.step)⟩
        · rw [if_neg c4] at H
          exact absurd H (by simp)
      · rw [if_neg c3] at H
        have c3b0 : decide (x5_1 < (l0.length : Int)) = false := decide_eq_false c3
        clear c3
        obtain rfl := Option.some.inj H
        go_wp2
        go_ret
        exact ⟨by first | rfl | (simp; done) | (simp [*]; done), by repeat (first | exact Drawn0.refl _ | apply Drawn0.step)⟩

/-! ### laws_FnExactSolutions: function 5 -/
/-! ### The law of Solutions: its one way that answers true -/
def laws_FnExactSolutions.rest (k : Nat) (P1 : Int) (P2 : List S55) (W1 : List (List Int)) (G1 : List (List Int)) : Option Bool :=
  (laws_eqIntSS.f k G1 W1).bind fun e1 => if e1 = true then ((laws_eqPuzzle.f k P1 P2 P1 P2).bind fun e2 => if e2 = true then ((laws_markPuzzle.f k P1 P2 1).bind fun M => if 0 ≤ M.1 then ((laws_markIntSS.f k G1 1).bind fun N => (laws_heldIntSS.f k N.2 1).bind fun q => if 0 ≤ q ∧ q = N.1 then some true else none) else none) else none) else none
def laws_FnExactSolutions.f (k : Nat) (a0_0 : Int) (l0_1 : List S81) : Option Bool :=
  (laws_szPuzzle.f a0_0 l0_1 1048576).bind fun t => if t < 0 then some true else ((laws_toPuzzle.f k a0_0 l0_1).bind fun P => (spec_Solutions.f k P.1 P.2).bind fun W => (impl_Solutions.f k P.1 P.2).bind fun G => if G.2 = W.2 then laws_FnExactSolutions.rest k P.1 P.2 W.1 G.1 else none)
theorem sols_row {xs : List S55} {W : World} {base : Nat} {ok : Nat → Prop} {u : Value} (h : Kd.R k55 55 W base ok u xs) : Kd.R k55 55 W base (fun _ => True) u xs := Kd.R_mono h (fun _ _ => trivial)
theorem law_undrew {w w' : World} (h : Below w.drew.heap.size w.drew w') : Below w.heap.size w w' := ⟨h.os, h.tape, h.output, h.size, h.block⟩
set_option maxHeartbeats 4000000 in
set_option maxRecDepth 100000 in
theorem laws_FnExactSolutions.calls (k : Nat) (a0_0 : Int) (A0_1 : Option Addr) (c0_1 : Nat) (l0_1 : List (S81)) (r : Bool) (w : World) (hr0_1 : Kd.C k81 w A0_1 l0_1.length l0_1) (hc0_1 : l0_1.length ≤ c0_1) (h : laws_FnExactSolutions.f k a0_0 l0_1 = some r) :
    Calls Try.prog 5 #[.agg #[.int .i64 a0_0, .slice A0_1 l0_1.length c0_1]] w fun e w' => e = .returned (.bool r) ∧ Below w.heap.size w w' := by
  have huLP := Try.underlying38
  have huLC := Try.underlying81
  have huIP := Try.underlying30
  have huIC := Try.underlying55
  obtain ⟨t, hsz, h⟩ := Option.bind_eq_some_iff.mp h
  have HSZ := Aside0.mk hsz
  have HR := Aside0.mk hr0_1
  have HC := Aside0.mk hc0_1
  have HH := Aside0.mk h
  clear hsz hr0_1 hc0_1 h
  go_enter Try.func5, Try.ntmps5
  go_wp2_with ((with_reducible refine gate_dst (N := 1) rfl ?_); refine box_event ?hg (N := 1) ?hd (cs := #[.int .i64 a0_0, .slice A0_1 l0_1.length c0_1]) (t := 38) ?hr ?_; (case hd => rfl); (case hg => rfl); (case hr => first | (go_simp; done) | (go_simp; rfl)); intro g2 hg_ v2 hbox_ hb_; have B2 := Aside0.mk hbox_; have HB := Aside0.mk hb_; clear hg_ hbox_ hb_; have hz0 : v2.cell? ⟨g2, 0, none⟩ = some (.int .i64 a0_0) := (blk_cell B2.out 0).trans rfl; have hz1 : v2.cell? ⟨g2, 1, none⟩ = some (.slice A0_1 l0_1.length c0_1) := (blk_cell B2.out 1).trans rfl)
  with_reducible refine (laws_szPuzzle.calls a0_0 A0_1 c0_1 l0_1 1048576 t _ (Kd.C_below HR.out HB.out) HC.out HSZ.out).mono ?_
  rintro e wa ⟨rfl, hb_⟩
  have n_ := Aside0.mk (blk_below B2.out hb_); clear B2; have B2 := n_; clear n_
  have n_ := Aside0.mk (below_step HB.out hb_); clear HB; have HB := n_; clear n_
  clear hb_ hz0 hz1
  by_cases ht : t < 0
  · have hr : true = r := by
      have h := HH.out
      rw [if_pos ht] at h
      exact Option.some.inj h
    subst hr
    go_wp2
    ((try simp only [Exit.inBlock, Exit.then]); refine bodyPost_ret (results_tmp rfl _ _ _) rfl ?_)
    exact ⟨rfl, HB.out⟩
  · have h := HH.out
    rw [if_neg ht] at h
    clear HH
    replace h := Option.bind_eq_some_iff.mp h; obtain ⟨⟨P1, P2⟩, hP, h⟩ := h
    have HP := Aside0.mk hP
    clear hP
    replace h := Option.bind_eq_some_iff.mp h; obtain ⟨⟨W1, W2⟩, hW, h⟩ := h
    have HW := Aside0.mk hW
    clear hW
    replace h := Option.bind_eq_some_iff.mp h; obtain ⟨⟨G1, G2⟩, hG, h⟩ := h
    have HG := Aside0.mk hG
    clear hG
    by_cases hok : G2 = W2
    rotate_left
    · rw [if_neg hok] at h
      cases h
    rw [if_pos hok] at h
    subst hok
    replace h : laws_FnExactSolutions.rest k P1 P2 W1 G1 = some r := h
    unfold laws_FnExactSolutions.rest at h
    replace h := Option.bind_eq_some_iff.mp h; obtain ⟨e1, he1, h⟩ := h
    have He1 := Aside0.mk he1
    clear he1
    by_cases ce1 : e1 = true
    rotate_left
    · rw [if_neg ce1] at h
      cases h
    rw [if_pos ce1] at h
    subst ce1
    replace h := Option.bind_eq_some_iff.mp h; obtain ⟨e2, he2, h⟩ := h
    have He2 := Aside0.mk he2
    clear he2
    by_cases ce2 : e2 = true
    rotate_left
    · rw [if_neg ce2] at h
      cases h
    rw [if_pos ce2] at h
    subst ce2
    replace h := Option.bind_eq_some_iff.mp h; obtain ⟨⟨M1, M2⟩, hM, h⟩ := h
    have HM := Aside0.mk hM
    clear hM
    by_cases cM : 0 ≤ M1
    rotate_left
    · rw [if_neg cM] at h
      cases h
    rw [if_pos cM] at h
    replace h := Option.bind_eq_some_iff.mp h; obtain ⟨⟨N1, N2⟩, hN, h⟩ := h
    have HN := Aside0.mk hN
    clear hN
    replace h := Option.bind_eq_some_iff.mp h; obtain ⟨q, hq, h⟩ := h
    have Hq := Aside0.mk hq
    clear hq
    by_cases cq : 0 ≤ q ∧ q = N1
    rotate_left
    · rw [if_neg cq] at h
      cases h
    rw [if_pos cq] at h
    obtain ⟨cq0, rfl⟩ := cq
    have hr : true = r := Option.some.inj h
    subst hr
    clear h
    have nM : ¬ M1 < 0 := by omega
    have nq : ¬ q < 0 := by omega
    clear cM cq0
    have hbne : (G2 != G2) = false := bne_self_eq_false G2
    have hz0 : wa.cell? ⟨g2, 0, none⟩ = some (.int .i64 a0_0) := (blk_cell B2.out 0).trans rfl
    have hz1 : wa.cell? ⟨g2, 1, none⟩ = some (.slice A0_1 l0_1.length c0_1) := (blk_cell B2.out 1).trans rfl
    go_wp2_with fail
    with_reducible refine (laws_toPuzzle.calls k a0_0 A0_1 c0_1 l0_1 P1 P2 _ (Kd.C_below HR.out HB.out) HC.out HP.out).mono ?_
    rintro e wb ⟨v_, rfl, ho_, hb_⟩
    obtain ⟨Ap, cp, ev_⟩ := Kd.R_slice ho_
    subst ev_
    have HRP := Aside0.mk (show Kd.R k55 55 wb w.heap.size (fun _ => True) (.slice Ap P2.length cp) P2 from Kd.R_lower ho_ HB.out.size)
    have n_ := Aside0.mk (blk_below B2.out hb_); clear B2; have B2 := n_; clear n_
    have n_ := Aside0.mk (below_step HB.out hb_); clear HB; have HB := n_; clear n_
    clear ho_ hb_ hz0 hz1
    go_wp2_with fail
    with_reducible refine (spec_Solutions.calls k P1 Ap cp P2 W1 G2 _ (Kd.R_reads' HRP.out).2.2 (Kd.R_reads' HRP.out).2.1 HW.out).mono ?_
    rintro e wc ⟨v_, rfl, ho_, hb_⟩
    obtain ⟨Aw, cw, ev_⟩ := Kd.S_slice ho_
    subst ev_
    have HSW := Aside0.mk (show Kd.S (Kd.slice 3 (Kd.int .i64)) 22 wc w.heap.size (fun _ => True) (.slice Aw W1.length cw) W1 from Kd.S_lower ho_ HB.out.size)
    have n_ := Aside0.mk (blk_below B2.out hb_); clear B2; have B2 := n_; clear n_
    have n_ := Aside0.mk (below_step HB.out hb_); clear HB; have HB := n_; clear n_
    clear ho_ hb_ HRP
    have hz0 : wc.cell? ⟨g2, 0, none⟩ = some (.int .i64 a0_0) := (blk_cell B2.out 0).trans rfl
    have hz1 : wc.cell? ⟨g2, 1, none⟩ = some (.slice A0_1 l0_1.length c0_1) := (blk_cell B2.out 1).trans rfl
    go_wp2_with fail
    with_reducible refine (laws_toPuzzle.calls k a0_0 A0_1 c0_1 l0_1 P1 P2 _ (Kd.C_below HR.out HB.out) HC.out HP.out).mono ?_
    rintro e wd ⟨v_, rfl, ho_, hb_⟩
    obtain ⟨Ax, cx, ev_⟩ := Kd.R_slice ho_
    subst ev_
    have n_ := Aside0.mk (show Kd.S (Kd.slice 3 (Kd.int .i64)) 22 wd w.heap.size (fun k_ => True ∧ some k_ ≠ (Value.slice Ax P2.length cx).ownBlock) (.slice Aw W1.length cw) W1 from Kd.S_elder' HSW.out (Kd.R_base ho_) hb_); clear HSW; have HSW := n_; clear n_
    have HRX := Aside0.mk (show Kd.R k55 55 wd w.heap.size (fun _ => True) (.slice Ax P2.length cx) P2 from Kd.R_lower ho_ HB.out.size)
    have n_ := Aside0.mk (blk_below B2.out hb_); clear B2; have B2 := n_; clear n_
    have n_ := Aside0.mk (below_step HB.out hb_); clear HB; have HB := n_; clear n_
    clear ho_ hb_ hz0 hz1
    go_wp2_with fail
    obtain ⟨w7, hw7⟩ : ∃ W, W = wd.alloc (.cells #[.int .i64 P1, .slice Ax P2.length cx] 30) := ⟨_, rfl⟩
    rw [← hw7]
    have hb_ : Below wd.heap.size wd w7 := by rw [hw7]; exact below_alloc (Below.refl _ _) _
    have B8 := Aside0.mk (show w7.heap[wd.heap.size]? = some (.cells #[.int .i64 P1, .slice Ax P2.length cx] 30 (0, 0)) by rw [hw7]; exact heap_alloc_new _ _)
    have n_ := Aside0.mk (blk_below B2.out hb_); clear B2; have B2 := n_; clear n_
    have n_ := Aside0.mk (below_step HB.out hb_); clear HB; have HB := n_; clear n_
    have n_ := Aside0.mk (Kd.S_below HSW.out hb_); clear HSW; have HSW := n_; clear n_
    have n_ := Aside0.mk (Kd.R_below HRX.out hb_); clear HRX; have HRX := n_; clear n_
    clear hb_ hw7
    generalize wd.heap.size = g8 at B8 ⊢
    obtain ⟨N7, hN7⟩ : ∃ N, N = w7.heap.size := ⟨_, rfl⟩
    have L2 := Aside0.mk (show g2 < N7 by rw [hN7]; exact blk_lt B2.out)
    have L8 := Aside0.mk (show g8 < N7 by rw [hN7]; exact blk_lt B8.out)
    have LX := Aside0.mk (show ∀ k_, some k_ = (Value.slice Ax P2.length cx).ownBlock → k_ < N7 from fun k_ h_ => by rw [hN7]; exact Kd.R_lt HRX.out k_ h_.symm)
    have n_ := Aside0.mk (show Kd.S (Kd.slice 3 (Kd.int .i64)) 22 w7 w.heap.size (fun k_ => k_ < N7 ∧ some k_ ≠ (Value.slice Ax P2.length cx).ownBlock) (.slice Aw W1.length cw) W1 from Kd.S_mono (Kd.S_bound HSW.out) (fun k_ h_ => ⟨by rw [hN7]; exact h_.2.2.1, h_.1.2⟩)); clear HSW; have HSW := n_; clear n_
    with_reducible refine (impl_Solutions.calls k P1 Ax cx P2 G1 G2 _ (Kd.R_reads' HRX.out).2.2 (Kd.R_reads' HRX.out).2.1 HG.out).mono ?_
    rintro e we ⟨v_, rfl, ho_, hb_⟩
    obtain ⟨Ag, cg, ev_⟩ := Kd.S_slice ho_
    subst ev_
    have HSG := Aside0.mk (show Kd.S (Kd.slice 3 (Kd.int .i64)) 22 we w.heap.size (fun k_ => N7 ≤ k_) (.slice Ag G1.length cg) G1 from Kd.S_lower (Kd.S_mono (Kd.S_bound ho_) (fun k_ h_ => by rw [hN7]; exact h_.2.1)) HB.out.size)
    have n_ := Aside0.mk (blk_below B2.out hb_); clear B2; have B2 := n_; clear n_
    have n_ := Aside0.mk (blk_below B8.out hb_); clear B8; have B8 := n_; clear n_
    have n_ := Aside0.mk (Kd.S_below HSW.out hb_); clear HSW; have HSW := n_; clear n_
    have n_ := Aside0.mk (Kd.R_below HRX.out hb_); clear HRX; have HRX := n_; clear n_
    have n_ := Aside0.mk (below_step HB.out hb_); clear HB; have HB := n_; clear n_
    clear ho_ hb_ hN7
    go_wp2_with fail
    with_reducible refine (laws_eqIntSS.calls k Ag cg G1 Aw cw W1 true _ (Kd.S_reads' HSG.out).2.2 (Kd.S_reads' HSG.out).2.1 (Kd.S_reads' HSW.out).2.2 (Kd.S_reads' HSW.out).2.1 He1.out).mono ?_
    rintro e wf ⟨rfl, hd_⟩
    have hb_ := hd_.below
    have n_ := Aside0.mk (blk_below B2.out hb_); clear B2; have B2 := n_; clear n_
    have n_ := Aside0.mk (blk_below B8.out hb_); clear B8; have B8 := n_; clear n_
    have n_ := Aside0.mk (Kd.S_below HSW.out hb_); clear HSW; have HSW := n_; clear n_
    have n_ := Aside0.mk (Kd.R_below HRX.out hb_); clear HRX; have HRX := n_; clear n_
    have n_ := Aside0.mk (Kd.S_below HSG.out hb_); clear HSG; have HSG := n_; clear n_
    have n_ := Aside0.mk (below_step HB.out hb_); clear HB; have HB := n_; clear n_
    clear hd_ hb_
    have hz0 : wf.cell? ⟨g8, 0, none⟩ = some (.int .i64 P1) := (blk_cell B8.out 0).trans rfl
    have hz1 : wf.cell? ⟨g8, 1, none⟩ = some (.slice Ax P2.length cx) := (blk_cell B8.out 1).trans rfl
    have hz2 : wf.cell? ⟨g2, 0, none⟩ = some (.int .i64 a0_0) := (blk_cell B2.out 0).trans rfl
    have hz3 : wf.cell? ⟨g2, 1, none⟩ = some (.slice A0_1 l0_1.length c0_1) := (blk_cell B2.out 1).trans rfl
    go_upto_region 10 with (fail)
    go_region_held3 (fun w' => w'.cell? ⟨g8, 0, none⟩ = some (.int .i64 P1) ∧ w'.cell? ⟨g8, 1, none⟩ = some (.slice Ax P2.length cx) ∧ w'.cell? ⟨g2, 0, none⟩ = some (.int .i64 a0_0) ∧ w'.cell? ⟨g2, 1, none⟩ = some (.slice A0_1 l0_1.length c0_1)) (first | exact ⟨hz0, hz1, hz2, hz3⟩ | exact ⟨(blk_cell B8.out 0).trans rfl, (blk_cell B8.out 1).trans rfl, (blk_cell B2.out 0).trans rfl, (blk_cell B2.out 1).trans rfl⟩) (first | (go_at_call 22; refine (laws_toPuzzle.calls k a0_0 A0_1 c0_1 l0_1 P1 P2 _ ?s1 HC.out HP.out).mono ?_; (case s1 => repeat (first | exact Kd.C_below HR.out HB.out | refine Kd.C_drew ?_)); rintro e w_ ⟨v_, rfl, ho_, hb_⟩; (try replace hb_ := law_undrew hb_); obtain ⟨Ay, cy, ev_⟩ := Kd.R_slice ho_; subst ev_; have HRY := Aside0.mk (show Kd.R k55 55 w_ w.heap.size (fun _ => True) (.slice Ay P2.length cy) P2 from Kd.R_lower ho_ HB.out.size); have n_ := Aside0.mk (blk_below B2.out hb_); clear B2; have B2 := n_; clear n_; have n_ := Aside0.mk (blk_below B8.out hb_); clear B8; have B8 := n_; clear n_; have n_ := Aside0.mk (Kd.S_below HSW.out hb_); clear HSW; have HSW := n_; clear n_; have n_ := Aside0.mk (Kd.R_below HRX.out hb_); clear HRX; have HRX := n_; clear n_; have n_ := Aside0.mk (Kd.S_below HSG.out hb_); clear HSG; have HSG := n_; clear n_; have n_ := Aside0.mk (below_step HB.out hb_); clear HB; have HB := n_; clear n_; clear ho_ hb_) | (go_at_call 17; refine (laws_eqPuzzle.calls k P1 Ax cx P2 P1 Ay cy P2 true _ ?s1 ?s2 ?s3 ?s4 He2.out).mono ?_; (case s1 => exact (Kd.R_reads' HRX.out).2.2); (case s2 => exact (Kd.R_reads' HRX.out).2.1); (case s3 => exact (Kd.R_reads' HRY.out).2.2); (case s4 => exact (Kd.R_reads' HRY.out).2.1); rintro e wg ⟨rfl, hb_⟩; (try replace hb_ := law_undrew hb_); have n_ := Aside0.mk (blk_below B2.out hb_); clear B2; have B2 := n_; clear n_; have n_ := Aside0.mk (blk_below B8.out hb_); clear B8; have B8 := n_; clear n_; have n_ := Aside0.mk (Kd.S_below HSW.out hb_); clear HSW; have HSW := n_; clear n_; have n_ := Aside0.mk (Kd.R_below HRX.out hb_); clear HRX; have HRX := n_; clear n_; have n_ := Aside0.mk (Kd.S_below HSG.out hb_); clear HSG; have HSG := n_; clear n_; have n_ := Aside0.mk (below_step HB.out hb_); clear HB; have HB := n_; clear n_; clear hb_))
    clear hz0 hz1 hz2 hz3
    have hz0 : wg.cell? ⟨g8, 0, none⟩ = some (.int .i64 P1) := (blk_cell B8.out 0).trans rfl
    have hz1 : wg.cell? ⟨g8, 1, none⟩ = some (.slice Ax P2.length cx) := (blk_cell B8.out 1).trans rfl
    go_wp2_with fail
    with_reducible refine (laws_markPuzzle.calls k P1 (fun k_ => some k_ = (Value.slice Ax P2.length cx).ownBlock) (Value.slice Ax P2.length cx) P2 1 M1 M2 w _ HB.out (Kd.R_tight rfl HRX.out) HM.out).mono ?_
    rintro e wh ⟨rfl, ho_, hb_, hk_⟩
    have n_ := Aside0.mk (blk_kept B2.out hk_ (Kd.R_ne HRX.out B2.out (by decide))); clear B2; have B2 := n_; clear n_
    have n_ := Aside0.mk (Kd.S_kept HSW.out hk_ (fun k_ h1_ h2_ => h1_.2 h2_)); clear HSW; have HSW := n_; clear n_
    have n_ := Aside0.mk (Kd.S_kept HSG.out hk_ (fun k_ h1_ h2_ => by have := LX.out k_ h2_; omega)); clear HSG; have HSG := n_; clear n_
    have n_ := Aside0.mk (hb_); clear HB; have HB := n_; clear n_
    clear ho_ hb_ hk_ hz0 hz1 HRX B8
    go_wp2_with fail
    with_reducible refine (laws_eqIntSS.calls k Ag cg G1 Aw cw W1 true _ (Kd.S_reads' HSG.out).2.2 (Kd.S_reads' HSG.out).2.1 (Kd.S_reads' HSW.out).2.2 (Kd.S_reads' HSW.out).2.1 He1.out).mono ?_
    rintro e wi ⟨rfl, hd_⟩
    have hb_ := hd_.below
    have n_ := Aside0.mk (blk_below B2.out hb_); clear B2; have B2 := n_; clear n_
    have n_ := Aside0.mk (Kd.S_below HSW.out hb_); clear HSW; have HSW := n_; clear n_
    have n_ := Aside0.mk (Kd.S_below HSG.out hb_); clear HSG; have HSG := n_; clear n_
    have n_ := Aside0.mk (below_step HB.out hb_); clear HB; have HB := n_; clear n_
    clear hd_ hb_
    go_wp2_with fail
    with_reducible refine (laws_markIntSS.calls k (fun k_ => N7 ≤ k_) Ag cg G1 1 q N2 w _ HB.out HSG.out HN.out).mono ?_
    rintro e wj ⟨rfl, ho_, hb_, hk_⟩
    have n_ := Aside0.mk (blk_kept B2.out hk_ (by have := L2.out; omega)); clear B2; have B2 := n_; clear n_
    have n_ := Aside0.mk (Kd.S_kept HSW.out hk_ (fun k_ h1_ h2_ => by have := h1_.1; omega)); clear HSW; have HSW := n_; clear n_
    have n_ := Aside0.mk (ho_); clear HSG; have HSG := n_; clear n_
    have n_ := Aside0.mk (hb_); clear HB; have HB := n_; clear n_
    clear ho_ hb_ hk_
    have hl_ := (Kd.S_reads' HSG.out).1
    have HL := Aside0.mk hl_
    clear hl_
    go_wp2_with fail
    rw [HL.out]
    have n_ := Aside0.mk (show Kd.S (Kd.slice 3 (Kd.int .i64)) 22 wj w.heap.size (fun k_ => N7 ≤ k_) (.slice Ag N2.length cg) N2 by rw [← HL.out]; exact HSG.out); clear HSG; have HSG := n_; clear n_
    with_reducible refine (laws_heldIntSS.calls k Ag cg N2 1 q _ (Kd.S_reads' HSG.out).2.2 (Kd.S_reads' HSG.out).2.1 Hq.out).mono ?_
    rintro e wk ⟨rfl, hd_⟩
    have hb_ := hd_.below
    have n_ := Aside0.mk (blk_below B2.out hb_); clear B2; have B2 := n_; clear n_
    have n_ := Aside0.mk (Kd.S_below HSW.out hb_); clear HSW; have HSW := n_; clear n_
    have n_ := Aside0.mk (Kd.S_below HSG.out hb_); clear HSG; have HSG := n_; clear n_
    have n_ := Aside0.mk (below_step HB.out hb_); clear HB; have HB := n_; clear n_
    clear hd_ hb_
    have hz0 : wk.cell? ⟨g2, 0, none⟩ = some (.int .i64 a0_0) := (blk_cell B2.out 0).trans rfl
    have hz1 : wk.cell? ⟨g2, 1, none⟩ = some (.slice A0_1 l0_1.length c0_1) := (blk_cell B2.out 1).trans rfl
    go_wp2_with fail
    with_reducible refine (laws_toPuzzle.calls k a0_0 A0_1 c0_1 l0_1 P1 P2 _ (Kd.C_below HR.out HB.out) HC.out HP.out).mono ?_
    rintro e wl ⟨v_, rfl, ho_, hb_⟩
    obtain ⟨Az, cz, ev_⟩ := Kd.R_slice ho_
    subst ev_
    have HRZ := Aside0.mk (show Kd.R k55 55 wl w.heap.size (fun _ => True) (.slice Az P2.length cz) P2 from Kd.R_lower ho_ HB.out.size)
    have n_ := Aside0.mk (blk_below B2.out hb_); clear B2; have B2 := n_; clear n_
    have n_ := Aside0.mk (Kd.S_below HSW.out hb_); clear HSW; have HSW := n_; clear n_
    have n_ := Aside0.mk (Kd.S_below HSG.out hb_); clear HSG; have HSG := n_; clear n_
    have n_ := Aside0.mk (below_step HB.out hb_); clear HB; have HB := n_; clear n_
    clear ho_ hb_ hz0 hz1
    go_wp2_with fail
    with_reducible refine (impl_Solutions.calls k P1 Az cz P2 G1 G2 _ (Kd.R_reads' HRZ.out).2.2 (Kd.R_reads' HRZ.out).2.1 HG.out).mono ?_
    rintro e wm ⟨v_, rfl, ho_, hb_⟩
    obtain ⟨Ah, ch, ev_⟩ := Kd.S_slice ho_
    subst ev_
    have HSH := Aside0.mk (show Kd.S (Kd.slice 3 (Kd.int .i64)) 22 wm w.heap.size (fun _ => True) (.slice Ah G1.length ch) G1 from Kd.S_lower ho_ HB.out.size)
    have n_ := Aside0.mk (blk_below B2.out hb_); clear B2; have B2 := n_; clear n_
    have n_ := Aside0.mk (Kd.S_below HSW.out hb_); clear HSW; have HSW := n_; clear n_
    have n_ := Aside0.mk (Kd.S_below HSG.out hb_); clear HSG; have HSG := n_; clear n_
    have n_ := Aside0.mk (below_step HB.out hb_); clear HB; have HB := n_; clear n_
    clear ho_ hb_
    go_wp2_with fail
    with_reducible refine (laws_eqIntSS.calls k Ah ch G1 Aw cw W1 true _ (Kd.S_reads' HSH.out).2.2 (Kd.S_reads' HSH.out).2.1 (Kd.S_reads' HSW.out).2.2 (Kd.S_reads' HSW.out).2.1 He1.out).mono ?_
    rintro e wn ⟨rfl, hd_⟩
    have hb_ := hd_.below
    have n_ := Aside0.mk (blk_below B2.out hb_); clear B2; have B2 := n_; clear n_
    have n_ := Aside0.mk (Kd.S_below HSW.out hb_); clear HSW; have HSW := n_; clear n_
    have n_ := Aside0.mk (Kd.S_below HSG.out hb_); clear HSG; have HSG := n_; clear n_
    have n_ := Aside0.mk (below_step HB.out hb_); clear HB; have HB := n_; clear n_
    clear hd_ hb_
    go_wp2_with fail
    with_reducible refine (laws_heldIntSS.calls k Ag cg N2 1 q _ (Kd.S_reads' HSG.out).2.2 (Kd.S_reads' HSG.out).2.1 Hq.out).mono ?_
    rintro e wo ⟨rfl, hd_⟩
    have hb_ := hd_.below
    have n_ := Aside0.mk (below_step HB.out hb_); clear HB; have HB := n_; clear n_
    clear hd_ hb_
    go_wp2_with fail
    ((try simp only [Exit.inBlock, Exit.then]); refine bodyPost_ret (results_tmp rfl _ _ _) rfl ?_)
    exact ⟨rfl, HB.out⟩

end Go.Proofs.Ytennnaibnlmjlaa.V
