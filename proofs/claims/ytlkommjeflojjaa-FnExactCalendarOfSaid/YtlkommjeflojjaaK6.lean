/- The walks of the Go functions that these laws reach: each is proved to do what a plain Lean function says. -/
import Derived.Test.YtlkommjeflojjaaK0
import Derived.Test.YtlkommjeflojjaaK1
import Derived.Test.YtlkommjeflojjaaK3
import Derived.Test.YtlkommjeflojjaaK5
namespace Go.Proofs.Ytlkommjeflojjaa.K
open Go.RowKit Go.Proofs.YtlkommjeflojjaaW.PrintWords Go.Proofs.YtlkommjeflojjaaW.PrintLast Go.Proofs.YtlkommjeflojjaaW.PrintMore
attribute [local go_sem] max2_int min2_int max_two min_two max_three min_three max_four min_four   -- for this text's walks alone
set_option linter.unusedVariables false
set_option linter.unusedSimpArgs false

/-! ### laws_FnExactCalendarOf: function 10 -/
/-! ### The law of CalendarOf: its one way that answers true -/
def laws_FnExactCalendarOf.rest (k : Nat) (l0 : List Int) (W1 : List (List Int)) (G1 : List (List Int)) : Option Bool :=
  (laws_eqIntSS.f k G1 W1).bind fun e1 => if e1 = true then ((laws_eqIntS.f k l0 l0).bind fun e2 => if e2 = true then ((laws_markIntS.f k l0 1).bind fun M => if 0 ≤ M.1 then ((laws_markIntSS.f k G1 1).bind fun N => (laws_heldIntSS.f k N.2 1).bind fun q => if 0 ≤ q ∧ q = N.1 then some true else none) else none) else none) else none
def laws_FnExactCalendarOf.f (k : Nat) (l0 : List Int) (a1 a2 a3 : Int) : Option Bool :=
  if (l0.length : Int) > 1048576 then some true else ((laws_toIntS.f k l0).bind fun P => if P = l0 then ((spec_CalendarOf.f k l0 a1 a2 a3).bind fun W => (impl_CalendarOf.f k l0 a1 a2 a3).bind fun G => if G.2 = W.2 then laws_FnExactCalendarOf.rest k l0 W.1 G.1 else none) else none)
set_option maxHeartbeats 4000000 in
set_option maxRecDepth 100000 in
theorem laws_FnExactCalendarOf.calls (k : Nat) (A0 : Option Addr) (c0 : Nat) (l0 : List Int) (a1 a2 a3 : Int) (r : Bool) (w : World) (hr0 : Kd.C (Kd.int .i64) w A0 l0.length l0) (hc0 : l0.length ≤ c0) (h : laws_FnExactCalendarOf.f k l0 a1 a2 a3 = some r) :
    Calls Try.prog 10 #[.slice A0 l0.length c0, .int .i64 a1, .int .i64 a2, .int .i64 a3] w fun e w' => e = .returned (.bool r) ∧ Below w.heap.size w w' := by
  unfold laws_FnExactCalendarOf.f at h
  have HR := Aside0.mk hr0
  have HC := Aside0.mk hc0
  have HB := Aside0.mk (Below.refl w.heap.size w)
  clear hr0 hc0
  by_cases ht : (l0.length : Int) > 1048576
  · rw [if_pos ht] at h
    obtain rfl := Option.some.inj h
    have ht1 : (1048576 : Int) < (l0.length : Int) := ht
    have ht2 : decide ((l0.length : Int) > 1048576) = true := decide_eq_true ht
    go_enter Try.func10, Try.ntmps10
    go_wp2_with fail
    go_ret
    exact ⟨rfl, HB.out⟩
  rw [if_neg ht] at h
  have ht1 : ¬ (1048576 : Int) < (l0.length : Int) := ht
  have ht2 : decide ((l0.length : Int) > 1048576) = false := decide_eq_false ht
  obtain ⟨P, hP, h⟩ := Option.bind_eq_some_iff.mp h
  by_cases hPl : P = l0
  rotate_left
  · rw [if_neg hPl] at h
    cases h
  rw [if_pos hPl] at h
  subst hPl
  have HP := Aside0.mk hP
  clear hP
  replace h := Option.bind_eq_some_iff.mp h; obtain ⟨⟨W1, W2⟩, hW, h⟩ := h
  have HW := Aside0.mk hW
  clear hW
  replace h := Option.bind_eq_some_iff.mp h; obtain ⟨⟨G1, G2⟩, hG, h⟩ := h
  have HG := Aside0.mk hG
  clear hG
  by_cases hok : G2 = W2
  rotate_left
  · rw [if_neg hok] at h
    cases h
  rw [if_pos hok] at h
  subst hok
  replace h : laws_FnExactCalendarOf.rest k P W1 G1 = some r := h
  unfold laws_FnExactCalendarOf.rest at h
  replace h := Option.bind_eq_some_iff.mp h; obtain ⟨e1, he1, h⟩ := h
  have He1 := Aside0.mk he1
  clear he1
  by_cases ce1 : e1 = true
  rotate_left
  · rw [if_neg ce1] at h
    cases h
  rw [if_pos ce1] at h
  subst ce1
  replace h := Option.bind_eq_some_iff.mp h; obtain ⟨e2, he2, h⟩ := h
  have He2 := Aside0.mk he2
  clear he2
  by_cases ce2 : e2 = true
  rotate_left
  · rw [if_neg ce2] at h
    cases h
  rw [if_pos ce2] at h
  subst ce2
  replace h := Option.bind_eq_some_iff.mp h; obtain ⟨⟨M1, M2⟩, hM, h⟩ := h
  have HM := Aside0.mk hM
  clear hM
  by_cases cM : 0 ≤ M1
  rotate_left
  · rw [if_neg cM] at h
    cases h
  rw [if_pos cM] at h
  replace h := Option.bind_eq_some_iff.mp h; obtain ⟨⟨N1, N2⟩, hN, h⟩ := h
  have HN := Aside0.mk hN
  clear hN
  replace h := Option.bind_eq_some_iff.mp h; obtain ⟨q, hq, h⟩ := h
  have Hq := Aside0.mk hq
  clear hq
  by_cases cq : 0 ≤ q ∧ q = N1
  rotate_left
  · rw [if_neg cq] at h
    cases h
  rw [if_pos cq] at h
  obtain ⟨cq0, rfl⟩ := cq
  have hr : true = r := Option.some.inj h
  subst hr
  clear h
  have nM : ¬ M1 < 0 := by omega
  have nq : ¬ q < 0 := by omega
  clear cM cq0
  have hbne : (G2 != G2) = false := bne_self_eq_false G2
  go_enter Try.func10, Try.ntmps10
  go_wp2_with fail
  with_reducible refine (laws_toIntS.calls k A0 c0 P P _ (Kd.C_below HR.out HB.out) HC.out HP.out).mono ?_
  rintro e wb ⟨v_, rfl, ho_, hb_⟩
  obtain ⟨Ap, cp, ev_⟩ := Kd.R_slice ho_
  subst ev_
  have HRP := Aside0.mk (show Kd.R (Kd.int .i64) 3 wb w.heap.size (fun _ => True) (.slice Ap P.length cp) P from Kd.R_lower ho_ HB.out.size)
  have n_ := Aside0.mk (below_step HB.out hb_); clear HB; have HB := n_; clear n_
  clear ho_ hb_
  go_wp2_with fail
  with_reducible refine (spec_CalendarOf.calls k Ap cp P a1 a2 a3 W1 G2 _ (Kd.R_reads' HRP.out).2.2 (Kd.R_reads' HRP.out).2.1 HW.out).mono ?_
  rintro e wc ⟨v_, rfl, ho_, hb_⟩
  obtain ⟨Aw, cw, ev_⟩ := Kd.S_slice ho_
  subst ev_
  have HSW := Aside0.mk (show Kd.S (Kd.slice 3 (Kd.int .i64)) 22 wc w.heap.size (fun _ => True) (.slice Aw W1.length cw) W1 from Kd.S_lower ho_ HB.out.size)
  have n_ := Aside0.mk (below_step HB.out hb_); clear HB; have HB := n_; clear n_
  clear ho_ hb_ HRP
  go_wp2_with fail
  with_reducible refine (laws_toIntS.calls k A0 c0 P P _ (Kd.C_below HR.out HB.out) HC.out HP.out).mono ?_
  rintro e w7 ⟨v_, rfl, ho_, hb_⟩
  obtain ⟨Ax, cx, ev_⟩ := Kd.R_slice ho_
  subst ev_
  have n_ := Aside0.mk (show Kd.S (Kd.slice 3 (Kd.int .i64)) 22 w7 w.heap.size (fun k_ => True ∧ some k_ ≠ (Value.slice Ax P.length cx).ownBlock) (.slice Aw W1.length cw) W1 from Kd.S_elder' HSW.out (Kd.R_base ho_) hb_); clear HSW; have HSW := n_; clear n_
  have HRX := Aside0.mk (show Kd.R (Kd.int .i64) 3 w7 w.heap.size (fun _ => True) (.slice Ax P.length cx) P from Kd.R_lower ho_ HB.out.size)
  have n_ := Aside0.mk (below_step HB.out hb_); clear HB; have HB := n_; clear n_
  clear ho_ hb_
  obtain ⟨N7, hN7⟩ : ∃ N, N = w7.heap.size := ⟨_, rfl⟩
  have LX := Aside0.mk (show ∀ k_, some k_ = (Value.slice Ax P.length cx).ownBlock → k_ < N7 from fun k_ h_ => by rw [hN7]; exact Kd.R_lt HRX.out k_ h_.symm)
  have n_ := Aside0.mk (show Kd.S (Kd.slice 3 (Kd.int .i64)) 22 w7 w.heap.size (fun k_ => k_ < N7 ∧ some k_ ≠ (Value.slice Ax P.length cx).ownBlock) (.slice Aw W1.length cw) W1 from Kd.S_mono (Kd.S_bound HSW.out) (fun k_ h_ => ⟨by rw [hN7]; exact h_.2.2.1, h_.1.2⟩)); clear HSW; have HSW := n_; clear n_
  go_wp2_with fail
  with_reducible refine (impl_CalendarOf.calls k Ax cx P a1 a2 a3 G1 G2 _ (Kd.R_reads' HRX.out).2.2 (Kd.R_reads' HRX.out).2.1 HG.out).mono ?_
  rintro e we ⟨v_, rfl, ho_, hb_⟩
  obtain ⟨Ag, cg, ev_⟩ := Kd.S_slice ho_
  subst ev_
  have HSG := Aside0.mk (show Kd.S (Kd.slice 3 (Kd.int .i64)) 22 we w.heap.size (fun k_ => N7 ≤ k_) (.slice Ag G1.length cg) G1 from Kd.S_lower (Kd.S_mono (Kd.S_bound ho_) (fun k_ h_ => by rw [hN7]; exact h_.2.1)) HB.out.size)
  have n_ := Aside0.mk (Kd.S_below HSW.out hb_); clear HSW; have HSW := n_; clear n_
  have n_ := Aside0.mk (Kd.R_below HRX.out hb_); clear HRX; have HRX := n_; clear n_
  have n_ := Aside0.mk (below_step HB.out hb_); clear HB; have HB := n_; clear n_
  clear ho_ hb_ hN7
  go_wp2_with fail
  with_reducible refine (laws_eqIntSS.calls k Ag cg G1 Aw cw W1 true _ (Kd.S_reads' HSG.out).2.2 (Kd.S_reads' HSG.out).2.1 (Kd.S_reads' HSW.out).2.2 (Kd.S_reads' HSW.out).2.1 He1.out).mono ?_
  rintro e wf ⟨rfl, hd_⟩
  have hb_ := hd_.below
  have n_ := Aside0.mk (Kd.S_below HSW.out hb_); clear HSW; have HSW := n_; clear n_
  have n_ := Aside0.mk (Kd.R_below HRX.out hb_); clear HRX; have HRX := n_; clear n_
  have n_ := Aside0.mk (Kd.S_below HSG.out hb_); clear HSG; have HSG := n_; clear n_
  have n_ := Aside0.mk (below_step HB.out hb_); clear HB; have HB := n_; clear n_
  clear hd_ hb_
  go_wp2_with fail
  with_reducible refine (laws_toIntS.calls k A0 c0 P P _ (Kd.C_below HR.out HB.out) HC.out HP.out).mono ?_
  rintro e wg ⟨v_, rfl, ho_, hb_⟩
  obtain ⟨Ay, cy, ev_⟩ := Kd.R_slice ho_
  subst ev_
  have HRY := Aside0.mk (show Kd.R (Kd.int .i64) 3 wg w.heap.size (fun _ => True) (.slice Ay P.length cy) P from Kd.R_lower ho_ HB.out.size)
  have n_ := Aside0.mk (Kd.S_below HSW.out hb_); clear HSW; have HSW := n_; clear n_
  have n_ := Aside0.mk (Kd.R_below HRX.out hb_); clear HRX; have HRX := n_; clear n_
  have n_ := Aside0.mk (Kd.S_below HSG.out hb_); clear HSG; have HSG := n_; clear n_
  have n_ := Aside0.mk (below_step HB.out hb_); clear HB; have HB := n_; clear n_
  clear ho_ hb_
  go_wp2_with fail
  with_reducible refine (laws_eqIntS.calls k Ax cx P Ay cy P true _ (Kd.R_reads' HRX.out).2.2 (Kd.R_reads' HRX.out).2.1 (Kd.R_reads' HRY.out).2.2 (Kd.R_reads' HRY.out).2.1 He2.out).mono ?_
  rintro e wg2 ⟨rfl, hd_⟩
  have hb_ := hd_.below
  have n_ := Aside0.mk (Kd.S_below HSW.out hb_); clear HSW; have HSW := n_; clear n_
  have n_ := Aside0.mk (Kd.R_below HRX.out hb_); clear HRX; have HRX := n_; clear n_
  have n_ := Aside0.mk (Kd.S_below HSG.out hb_); clear HSG; have HSG := n_; clear n_
  have n_ := Aside0.mk (below_step HB.out hb_); clear HB; have HB := n_; clear n_
  clear hd_ hb_ HRY
  go_wp2_with fail
  with_reducible refine (laws_markIntS.calls k (fun k_ => some k_ = (Value.slice Ax P.length cx).ownBlock) (Value.slice Ax P.length cx) P 1 M1 M2 w _ HB.out (Kd.R_tight rfl HRX.out) HM.out).mono ?_
  rintro e wh ⟨rfl, ho_, hb_, hk_⟩
  have n_ := Aside0.mk (Kd.S_kept HSW.out hk_ (fun k_ h1_ h2_ => h1_.2 h2_)); clear HSW; have HSW := n_; clear n_
  have n_ := Aside0.mk (Kd.S_kept HSG.out hk_ (fun k_ h1_ h2_ => by have := LX.out k_ h2_; omega)); clear HSG; have HSG := n_; clear n_
  have n_ := Aside0.mk (hb_); clear HB; have HB := n_; clear n_
  clear ho_ hb_ hk_ HRX
  go_wp2_with fail
  with_reducible refine (laws_eqIntSS.calls k Ag cg G1 Aw cw W1 true _ (Kd.S_reads' HSG.out).2.2 (Kd.S_reads' HSG.out).2.1 (Kd.S_reads' HSW.out).2.2 (Kd.S_reads' HSW.out).2.1 He1.out).mono ?_
  rintro e wi ⟨rfl, hd_⟩
  have hb_ := hd_.below
  have n_ := Aside0.mk (Kd.S_below HSW.out hb_); clear HSW; have HSW := n_; clear n_
  have n_ := Aside0.mk (Kd.S_below HSG.out hb_); clear HSG; have HSG := n_; clear n_
  have n_ := Aside0.mk (below_step HB.out hb_); clear HB; have HB := n_; clear n_
  clear hd_ hb_
  go_wp2_with fail
  with_reducible refine (laws_markIntSS.calls k (fun k_ => N7 ≤ k_) Ag cg G1 1 q N2 w _ HB.out HSG.out HN.out).mono ?_
  rintro e wj ⟨rfl, ho_, hb_, hk_⟩
  have n_ := Aside0.mk (Kd.S_kept HSW.out hk_ (fun k_ h1_ h2_ => by have := h1_.1; omega)); clear HSW; have HSW := n_; clear n_
  have n_ := Aside0.mk (ho_); clear HSG; have HSG := n_; clear n_
  have n_ := Aside0.mk (hb_); clear HB; have HB := n_; clear n_
  clear ho_ hb_ hk_
  have hl_ := (Kd.S_reads' HSG.out).1
  have HL := Aside0.mk hl_
  clear hl_
  go_wp2_with fail
  rw [HL.out]
  have n_ := Aside0.mk (show Kd.S (Kd.slice 3 (Kd.int .i64)) 22 wj w.heap.size (fun k_ => N7 ≤ k_) (.slice Ag N2.length cg) N2 by rw [← HL.out]; exact HSG.out); clear HSG; have HSG := n_; clear n_
  with_reducible refine (laws_heldIntSS.calls k Ag cg N2 1 q _ (Kd.S_reads' HSG.out).2.2 (Kd.S_reads' HSG.out).2.1 Hq.out).mono ?_
  rintro e wk ⟨rfl, hd_⟩
  have hb_ := hd_.below
  have n_ := Aside0.mk (Kd.S_below HSW.out hb_); clear HSW; have HSW := n_; clear n_
  have n_ := Aside0.mk (Kd.S_below HSG.out hb_); clear HSG; have HSG := n_; clear n_
  have n_ := Aside0.mk (below_step HB.out hb_); clear HB; have HB := n_; clear n_
  clear hd_ hb_
  go_wp2_with fail
  with_reducible refine (laws_toIntS.calls k A0 c0 P P _ (Kd.C_below HR.out HB.out) HC.out HP.out).mono ?_
  rintro e wl ⟨v_, rfl, ho_, hb_⟩
  obtain ⟨Az, cz, ev_⟩ := Kd.R_slice ho_
  subst ev_
  have HRZ := Aside0.mk (show Kd.R (Kd.int .i64) 3 wl w.heap.size (fun _ => True) (.slice Az P.length cz) P from Kd.R_lower ho_ HB.out.size)
  have n_ := Aside0.mk (Kd.S_below HSW.out hb_); clear HSW; have HSW := n_; clear n_
  have n_ := Aside0.mk (Kd.S_below HSG.out hb_); clear HSG; have HSG := n_; clear n_
  have n_ := Aside0.mk (below_step HB.out hb_); clear HB; have HB := n_; clear n_
  clear ho_ hb_
  go_wp2_with fail
  with_reducible refine (impl_CalendarOf.calls k Az cz P a1 a2 a3 G1 G2 _ (Kd.R_reads' HRZ.out).2.2 (Kd.R_reads' HRZ.out).2.1 HG.out).mono ?_
  rintro e wm ⟨v_, rfl, ho_, hb_⟩
  obtain ⟨Ah, ch, ev_⟩ := Kd.S_slice ho_
  subst ev_
  have HSH := Aside0.mk (show Kd.S (Kd.slice 3 (Kd.int .i64)) 22 wm w.heap.size (fun _ => True) (.slice Ah G1.length ch) G1 from Kd.S_lower ho_ HB.out.size)
  have n_ := Aside0.mk (Kd.S_below HSW.out hb_); clear HSW; have HSW := n_; clear n_
  have n_ := Aside0.mk (Kd.S_below HSG.out hb_); clear HSG; have HSG := n_; clear n_
  have n_ := Aside0.mk (below_step HB.out hb_); clear HB; have HB := n_; clear n_
  clear ho_ hb_
  go_wp2_with fail
  with_reducible refine (laws_eqIntSS.calls k Ah ch G1 Aw cw W1 true _ (Kd.S_reads' HSH.out).2.2 (Kd.S_reads' HSH.out).2.1 (Kd.S_reads' HSW.out).2.2 (Kd.S_reads' HSW.out).2.1 He1.out).mono ?_
  rintro e wn ⟨rfl, hd_⟩
  have hb_ := hd_.below
  have n_ := Aside0.mk (Kd.S_below HSW.out hb_); clear HSW; have HSW := n_; clear n_
  have n_ := Aside0.mk (Kd.S_below HSG.out hb_); clear HSG; have HSG := n_; clear n_
  have n_ := Aside0.mk (below_step HB.out hb_); clear HB; have HB := n_; clear n_
  clear hd_ hb_
  go_wp2_with fail
  with_reducible refine (laws_heldIntSS.calls k Ag cg N2 1 q _ (Kd.S_reads' HSG.out).2.2 (Kd.S_reads' HSG.out).2.1 Hq.out).mono ?_
  rintro e wo ⟨rfl, hd_⟩
  have hb_ := hd_.below
  have n_ := Aside0.mk (below_step HB.out hb_); clear HB; have HB := n_; clear n_
  clear hd_ hb_
  go_wp2_with fail
  ((try simp only [Exit.inBlock, Exit.then]); refine bodyPost_ret (results_tmp rfl _ _ _) rfl ?_)
  exact ⟨rfl, HB.out⟩

end Go.Proofs.Ytlkommjeflojjaa.K
