/- The walks of the Go functions that these laws reach: each is proved to do what a plain Lean function says. -/
import Derived.Test.YtlkommjeflojjaaA0
import Derived.Test.YtlkommjeflojjaaA1
import Derived.Test.YtlkommjeflojjaaA3
import Derived.Test.YtlkommjeflojjaaA4
import Derived.Test.YtlkommjeflojjaaA6
import Derived.Test.YtlkommjeflojjaaA7
namespace Go.Proofs.Ytlkommjeflojjaa.A
open Go.RowKit Go.Proofs.YtlkommjeflojjaaW.PrintWords Go.Proofs.YtlkommjeflojjaaW.PrintLast Go.Proofs.YtlkommjeflojjaaW.PrintMore
attribute [local go_sem] max2_int min2_int max_two min_two max_three min_three max_four min_four   -- for this text's walks alone
set_option linter.unusedVariables false
set_option linter.unusedSimpArgs false

/-! ### laws_markPuzzle: function 47 -/
def laws_markPuzzle.f (k : Nat) (a0_0 : Int) (l0_1 : List (S62)) (a1 : Int) : Option (Int × (List (S62))) := (laws_markClueS.f k l0_1 a1).bind fun bt189 => (some (bt189.1, bt189.2))
theorem laws_markPuzzle.mono : ∀ a0 a1 a2 k, LeO (laws_markPuzzle.f k a0 a1 a2) (laws_markPuzzle.f (k + 1) a0 a1 a2) := by
  intro a0 a1 a2 k
  unfold laws_markPuzzle.f
  repeat' first
      | (with_reducible exact laws_markClueS.mono _ _ _)
      | (with_reducible exact LeO.refl _)
      | (with_reducible exact LeO.none _)
      | (with_reducible refine LeO.ite ?_ ?_)
      | (with_reducible refine LeO.bind ?_ (fun _ => ?_))
      | exact laws_markClueS.mono _ _ _
      | exact LeO.none _
      | refine LeO.ite ?_ ?_
      | refine LeO.bind ?_ (fun _ => ?_)
set_option maxHeartbeats 8000000 in
set_option maxRecDepth 100000 in
theorem laws_markPuzzle.calls (k : Nat) (a0_0 : Int) (P0_1_ : Nat → Prop) (u9000_ : Value) (l0_1 : List (S62)) (a1 : Int) (r1 : Int) (r2 : List (S62)) (w0 w : World) (hB : Below w0.heap.size w0 w) (ho0_1 : Kd.R k62 62 w w0.heap.size P0_1_ u9000_ l0_1) (h : laws_markPuzzle.f k a0_0 l0_1 a1 = some (r1, r2)) :
    Calls Try.prog 47 #[.agg #[.int .i64 a0_0, u9000_], .int .i64 a1] w fun e w' => e = .returned (.int .i64 r1) ∧ Kd.R k62 62 w' w0.heap.size (fun k_ => (P0_1_ k_ ∨ w.heap.size ≤ k_)) u9000_ r2 ∧ Below w0.heap.size w0 w' ∧ Kept w w' (fun k_ => P0_1_ k_) := by
  have hu58 := Try.underlying58
  have HO0_1 := Aside0.mk (show Kd.R k62 62 w w0.heap.size (fun k_ => (P0_1_ k_ ∨ w.heap.size ≤ k_)) u9000_ l0_1 from Kd.R_mono ho0_1 (fun k_ hk => (.inl hk)))
  have HK := Aside0.mk (Kept.refl w (fun k_ => P0_1_ k_))
  have HW0 := Aside0.mk hB.size
  have HB := Aside0.mk hB
  clear hB
  have H : ((laws_markClueS.f k l0_1 a1).bind fun bt189 => (some (bt189.1, bt189.2))) = some (r1, r2) := h
  clear h
  replace H := Option.bind_eq_some_iff.mp H
  obtain ⟨⟨t189, t190⟩, A30, H⟩ := H
  replace H : (some (t189, t190)) = some (r1, r2) := H
  have A3 := Aside0.mk A30
  clear A30
  simp only [Option.some.injEq, Prod.mk.injEq] at H
  obtain ⟨rfl, rfl⟩ := H
  obtain ⟨Ao4, co4, eo4⟩ := Kd.R_slice HO0_1.out
  subst eo4
  go_enter Try.func47, Try.ntmps47
  go_wp2_with (first | ((with_reducible refine gate_dst (N := 2) rfl ?_); refine box_event ?hg (N := 2) ?hd (cs := #[.int .i64 a0_0, .slice Ao4 l0_1.length co4]) (t := 58) ?hr ?_; (case hd => rfl); (case hg => rfl); (case hr => first | (go_simp; done) | (go_simp; rfl)); intro gb188 hg w5 hbox hb; have n0_ := Aside0.mk (Kd.R_below (by (with_reducible repeat (first | apply Kd.R_alloc | apply Kd.R_drewN | apply Kd.R_drew)); exact HO0_1.out) hb); have n1_ := Aside0.mk (Kept.below (S := (fun k_ => P0_1_ k_)) (by repeat (first | (with_reducible first | exact HK.out | apply Kept.alloc | apply Kept.drewN | apply Kept.drew) | exact HK.out)) hb); have n2_ := Aside0.mk (below_step (by repeat (first | (with_reducible first | exact HB.out | apply below_alloc | apply pw_below_drewN | apply below_drew1) | exact HB.out)) hb); have n3_ := Aside0.mk (hbox); have n4_ := Aside0.mk ((by rw [hg]; exact (by first | exact HK.out.1 | exact (show Kept w _ (fun k_ => P0_1_ k_) from by repeat (first | (with_reducible first | exact HK.out | apply Kept.alloc | apply Kept.drewN | apply Kept.drew) | exact HK.out)).1) : w.heap.size ≤ gb188)); have n5_ := Aside0.mk ((by rw [hg]; exact (below_size (by repeat (first | (with_reducible first | exact HB.out | apply below_alloc | apply pw_below_drewN | apply below_drew1) | exact HB.out))) : w0.heap.size ≤ gb188)); clear HO0_1; clear HK; clear HB; have HO0_1 := n0_; have HK := n1_; have HB := n2_; have BK188 := n3_; have GW188 := n4_; have GE188 := n5_; clear n0_ n1_ n2_ n3_ n4_ n5_; clear hb hbox hg; have hcz6_0 : w5.cell? ⟨gb188, 0, none⟩ = some (.int .i64 a0_0) := (blk_cell BK188.out 0).trans rfl; have hcz6_1 : w5.cell? ⟨gb188, 1, none⟩ = some (.slice Ao4 l0_1.length co4) := (blk_cell BK188.out 1).trans rfl; have hfz6_0 := blk_frozen BK188.out 0; have hfz6_1 := blk_frozen BK188.out 1) | ((with_reducible refine gate_callee (f := 86) rfl ?_); refine goesL_ (some 8) rfl rfl Try.func86 (by kernel_rfl) rfl #[.slice Ao4 l0_1.length co4, .int .i64 a1] rfl (by (try simp only [List.map_toArray, List.map_cons, List.map_nil]); first | done | rfl | (simp only [List.length_drop, List.length_take]; rfl)) ?_; (with_reducible refine (laws_markClueS.calls k (fun k_ => some k_ = (.slice Ao4 l0_1.length co4 : Value).ownBlock) (.slice Ao4 l0_1.length co4) l0_1 a1 t189 t190 w0 _ ?side1 ?side2 A3.out).mono ?_); (case side1 => repeat (first | (with_reducible first | exact HB.out | apply below_alloc | apply pw_below_drewN | apply below_drew1 | refine below_set ?_ GE188.out) | exact HB.out)); (case side2 => exact Kd.R_tight rfl HO0_1.out); rintro e w7 ⟨rfl, hy0, hb, hkp⟩; refine ⟨_, rfl, ?_⟩; have n0_ := Aside0.mk (Kd.R_reok rfl hy0 (fun k_ e_ => HO0_1.out.1 k_ e_)); have n1_ := Aside0.mk (blk_kept (by (with_reducible repeat (first | refine blk_drewN ?_ _ | refine blk_drew ?_ | refine blk_alloc ?_ _)); exact BK188.out) hkp (fun hs_ => (fun e_ => (Kd.R_ne HO0_1.out BK188.out (by decide)) e_) hs_)); have n2_ := Aside0.mk (Kept.then_ (S := (fun k_ => P0_1_ k_)) (by repeat (first | (with_reducible first | exact HK.out | apply Kept.alloc | apply Kept.drewN | apply Kept.drew | refine Kept.setCell ?_ (.inr GW188.out) _) | exact HK.out)) hkp (fun k_ hs_ => (fun e_ => (HO0_1.out.1 k_ e_.symm)) hs_)); have n3_ := Aside0.mk (hb); clear HO0_1; clear BK188; clear HK; clear HB; have HO0_1 := n0_; have BK188 := n1_; have HK := n2_; have HB := n3_; clear n0_ n1_ n2_ n3_; (try clear hb); (try clear hkp); (try clear hy0)))
  go_ret
  exact ⟨by first | rfl | (simp [errW_none, errW_some] <;> rfl) | (simp [*, errW_none, errW_some] <;> rfl), by (with_reducible repeat (first | apply Kd.R_alloc | apply Kd.R_drewN | apply Kd.R_drew)); exact HO0_1.out, by repeat (first | (with_reducible first | exact HB.out | apply below_alloc | apply pw_below_drewN | apply below_drew1 | refine below_set ?_ GE188.out) | exact HB.out), by repeat (first | (with_reducible first | exact HK.out | apply Kept.alloc | apply Kept.drewN | apply Kept.drew | refine Kept.setCell ?_ (.inr GW188.out) _) | exact HK.out)⟩

/-! ### laws_heldClueS: function 87 -/
def laws_heldClueS.l0 : Nat → List (S62) → Int → Int → Option (Int)
  | 0, _, _, _ => none
  | k + 1, x0, x1, x5 => if x5 < (x0.length : Int) then (if 0 ≤ x5 then (if ((rd_T62 x0 x5).f0) = x1 then (if ((rd_T62 x0 x5).f1) = (wrap64 (x1 + 1)) then (if ((rd_T62 x0 x5).f2) = (wrap64 ((wrap64 (x1 + 1)) + 1)) then (laws_heldClueS.l0 k x0 (wrap64 ((wrap64 ((wrap64 (x1 + 1)) + 1)) + 1)) (wrap64 (x5 + 1))) else (none)) else (none)) else (none)) else (none)) else (some x1)
def laws_heldClueS.f (k : Nat) (l0 : List (S62)) (a1 : Int) : Option (Int) := laws_heldClueS.l0 k l0 a1 0
theorem laws_heldClueS.mono_l : ∀ k, (∀ y0 y1 y2, LeO (laws_heldClueS.l0 k y0 y1 y2) (laws_heldClueS.l0 (k + 1) y0 y1 y2))
  | 0 => fun _ _ _ r h => by simp [laws_heldClueS.l0] at h
  | k + 1 => by
    have ih0 := laws_heldClueS.mono_l k
    · intro y0 y1 y2
      unfold laws_heldClueS.l0
      repeat' first
      | (with_reducible exact ih0 _ _ _)
      | (with_reducible exact LeO.refl _)
      | (with_reducible exact LeO.none _)
      | (with_reducible refine LeO.ite ?_ ?_)
      | (with_reducible refine LeO.bind ?_ (fun _ => ?_))
      | exact ih0 _ _ _
      | exact LeO.none _
      | refine LeO.ite ?_ ?_
      | refine LeO.bind ?_ (fun _ => ?_)
theorem laws_heldClueS.mono : ∀ a0 a1 k, LeO (laws_heldClueS.f k a0 a1) (laws_heldClueS.f (k + 1) a0 a1) := by
  intro a0 a1 k
  have ih0 := laws_heldClueS.mono_l k
  unfold laws_heldClueS.f
  repeat' first
      | (with_reducible exact ih0 _ _ _)
      | (with_reducible exact LeO.refl _)
      | (with_reducible exact LeO.none _)
      | (with_reducible refine LeO.ite ?_ ?_)
      | (with_reducible refine LeO.bind ?_ (fun _ => ?_))
      | exact ih0 _ _ _
      | exact LeO.none _
      | refine LeO.ite ?_ ?_
      | refine LeO.bind ?_ (fun _ => ?_)
set_option maxHeartbeats 8000000 in
set_option maxRecDepth 100000 in
theorem laws_heldClueS.calls (k : Nat) (A0 : Option Addr) (c0 : Nat) (l0 : List (S62)) (a1 : Int) (r : Int) (w : World) (hr0 : Kd.C k62 w A0 l0.length l0) (hc0 : l0.length ≤ c0) (h : laws_heldClueS.f k l0 a1 = some r) :
    Calls Try.prog 87 #[.slice A0 l0.length c0, .int .i64 a1] w fun e w' => e = .returned (.int .i64 r) ∧ Drawn0 w w' := by
  have HR0 := Aside0.mk hr0
  have HC0 := Aside0.mk hc0
  clear hr0 hc0
  have H : (laws_heldClueS.l0 k l0 a1 0) = some r := h
  clear h
  have H' := Aside0.mk H
  clear H
  go_enter Try.func87, Try.ntmps87
  go_wp2
  go_loopg [1, 5] k (fun kq v1 v5 w' => ∃ (x1_1 : Int) (x5_1 : Int), v1 = .int .i64 x1_1 ∧ v5 = .int .i64 x5_1 ∧ Aside0 (laws_heldClueS.l0 kq l0 x1_1 x5_1 = some r) ∧ Aside0 (kq ≤ k) ∧ Drawn0 w w')
  case atStart => exact ⟨(a1), (0), (by first | rfl | (simp; done) | (simp [*]; done)), (by first | rfl | (simp; done) | (simp [*]; done)), H', ⟨Nat.le_refl _⟩, by repeat (first | exact Drawn0.refl _ | apply Drawn0.step)⟩
  case round =>
    clear H'
    try clear p2
    obtain ⟨x1_1, x5_1, rfl, rfl, HA, HK1, ⟨m1, rfl⟩⟩ := hrel
    cases gk with
    | zero => exact absurd HA.out (by simp [laws_heldClueS.l0])
    | succ k1 =>
      have H := HA.out
      clear HA
      simp only [laws_heldClueS.l0] at H
      by_cases c3 : x5_1 < (l0.length : Int)
      · rw [if_pos c3] at H
        have c3b0 : decide (x5_1 < (l0.length : Int)) = true := decide_eq_true c3
        clear c3
        by_cases c4 : 0 ≤ x5_1
        · rw [if_pos c4] at H
          have c4b0 : decide (0 ≤ x5_1) = true := decide_eq_true c4
          clear c4
          by_cases c5 : ((rd_T62 l0 x5_1).f0) = x1_1
          · rw [if_pos c5] at H
            have c5b0 : (((rd_T62 l0 x5_1).f0) == x1_1) = true := beq_iff_eq.mpr c5
            have c5b1 : (((rd_T62 l0 x5_1).f0) != x1_1) = false := bne_eq_false_iff_eq.mpr c5
            clear c5
            by_cases c6 : ((rd_T62 l0 x5_1).f1) = (wrap64 (x1_1 + 1))
            · rw [if_pos c6] at H
              have c6b0 : (((rd_T62 l0 x5_1).f1) == (wrap64 (x1_1 + 1))) = true := beq_iff_eq.mpr c6
              have c6b1 : (((rd_T62 l0 x5_1).f1) != (wrap64 (x1_1 + 1))) = false := bne_eq_false_iff_eq.mpr c6
              clear c6
              by_cases c7 : ((rd_T62 l0 x5_1).f2) = (wrap64 ((wrap64 (x1_1 + 1)) + 1))
              · rw [if_pos c7] at H
                have c7b0 : (((rd_T62 l0 x5_1).f2) == (wrap64 ((wrap64 (x1_1 + 1)) + 1))) = true := beq_iff_eq.mpr c7
                have c7b1 : (((rd_T62 l0 x5_1).f2) != (wrap64 ((wrap64 (x1_1 + 1)) + 1))) = false := bne_eq_false_iff_eq.mpr c7
                clear c7
                have H' := Aside0.mk H
                clear H
                have p191 : 0 ≤ (x5_1 : Int) := of_decide_eq_true (by first | (with_reducible assumption) | assumption)
                have q191 : x5_1 < (l0.length : Int) := of_decide_eq_true (by first | (with_reducible assumption) | assumption)
                obtain ⟨ad191, e191, hx191_0, hx191_1, hx191_2⟩ := at_T62 HR0.out x5_1 p191 q191
                cases e191
                replace p191 := eq_true p191
                replace q191 := eq_true q191
                have p192 : 0 ≤ (x5_1 : Int) := of_decide_eq_true (by first | (with_reducible assumption) | assumption)
                have q192 : x5_1 < (l0.length : Int) := of_decide_eq_true (by first | (with_reducible assumption) | assumption)
                obtain ⟨ad192, e192, hx192_0, hx192_1, hx192_2⟩ := at_T62 HR0.out x5_1 p192 q192
                obtain rfl : ad191 = ad192 := (by injection e192)
                replace p192 := eq_true p192
                replace q192 := eq_true q192
                have p193 : 0 ≤ (x5_1 : Int) := of_decide_eq_true (by first | (with_reducible assumption) | assumption)
                have q193 : x5_1 < (l0.length : Int) := of_decide_eq_true (by first | (with_reducible assumption) | assumption)
                obtain ⟨ad193, e193, hx193_0, hx193_1, hx193_2⟩ := at_T62 HR0.out x5_1 p193 q193
                obtain rfl : ad191 = ad193 := (by injection e193)
                replace p193 := eq_true p193
                replace q193 := eq_true q193
                go_wp2
                go_roundg k1
                case measure => have := HK1.out; omega
                case rel => exact ⟨(wrap64 ((wrap64 ((wrap64 (x1_1 + 1)) + 1)) + 1)), (wrap64 (x5_1 + 1)), (by first | rfl | (simp; done) | (simp [*]; done)), (by first | rfl | (simp; done) | (simp [*]; done)), H', ⟨by have := HK1.out; omega⟩, by repeat (first | exact Drawn0.refl _ | apply Drawn0.step)⟩
              · rw [if_neg c7] at H
                exact absurd H (by simp)
            · rw [if_neg c6] at H
              exact absurd H (by simp)
          · rw [if_neg c5] at H
            exact absurd H (by simp)
        · rw [if_neg c4] at H
          exact absurd H (by simp)
      · rw [if_neg c3] at H
        have c3b0 : decide (x5_1 < (l0.length : Int)) = false := decide_eq_false c3
        clear c3
        obtain rfl := Option.some.inj H
        go_wp2
        go_ret
        exact ⟨by first | rfl | (simp; done) | (simp [*]; done), by repeat (first | exact Drawn0.refl _ | apply Drawn0.step)⟩

/-! ### laws_heldPuzzle: function 48 -/
def laws_heldPuzzle.f (k : Nat) (a0_0 : Int) (l0_1 : List (S62)) (a1 : Int) : Option (Int) := (laws_heldClueS.f k l0_1 a1).bind fun t195 => (if t195 < 0 then (none) else (some t195))
theorem laws_heldPuzzle.mono : ∀ a0 a1 a2 k, LeO (laws_heldPuzzle.f k a0 a1 a2) (laws_heldPuzzle.f (k + 1) a0 a1 a2) := by
  intro a0 a1 a2 k
  unfold laws_heldPuzzle.f
  repeat' first
      | (with_reducible exact laws_heldClueS.mono _ _ _)
      | (with_reducible exact LeO.refl _)
      | (with_reducible exact LeO.none _)
      | (with_reducible refine LeO.ite ?_ ?_)
      | (with_reducible refine LeO.bind ?_ (fun _ => ?_))
      | exact laws_heldClueS.mono _ _ _
      | exact LeO.none _
      | refine LeO.ite ?_ ?_
      | refine LeO.bind ?_ (fun _ => ?_)
set_option maxHeartbeats 8000000 in
set_option maxRecDepth 100000 in
theorem laws_heldPuzzle.calls (k : Nat) (a0_0 : Int) (A0_1 : Option Addr) (c0_1 : Nat) (l0_1 : List (S62)) (a1 : Int) (r : Int) (w : World) (hr0_1 : Kd.C k62 w A0_1 l0_1.length l0_1) (hc0_1 : l0_1.length ≤ c0_1) (h : laws_heldPuzzle.f k a0_0 l0_1 a1 = some r) :
    Calls Try.prog 48 #[.agg #[.int .i64 a0_0, .slice A0_1 l0_1.length c0_1], .int .i64 a1] w fun e w' => e = .returned (.int .i64 r) ∧ Below w.heap.size w w' := by
  have hu58 := Try.underlying58
  have HR0_1 := Aside0.mk hr0_1
  have HC0_1 := Aside0.mk hc0_1
  clear hr0_1 hc0_1
  have HB := Aside0.mk (Below.refl w.heap.size w)
  have H : ((laws_heldClueS.f k l0_1 a1).bind fun t195 => (if t195 < 0 then (none) else (some t195))) = some r := h
  clear h
  replace H := Option.bind_eq_some_iff.mp H
  obtain ⟨t195, A30, H⟩ := H
  replace H : (if t195 < 0 then (none) else (some t195)) = some r := H
  have A3 := Aside0.mk A30
  clear A30
  by_cases c4 : t195 < 0
  · rw [if_pos c4] at H
    exact absurd H (by simp)
  · rw [if_neg c4] at H
    have c4b0 : decide (t195 < 0) = false := decide_eq_false c4
    clear c4
    obtain rfl := Option.some.inj H
    go_enter Try.func48, Try.ntmps48
    go_wp2_with (first | ((with_reducible refine gate_dst (N := 2) rfl ?_); refine box_event ?hg (N := 2) ?hd (cs := #[.int .i64 a0_0, .slice A0_1 l0_1.length c0_1]) (t := 58) ?hr ?_; (case hd => rfl); (case hg => rfl); (case hr => first | (go_simp; done) | (go_simp; rfl)); intro gb194 hg w5 hbox hb; have n0_ := Aside0.mk (below_step (by repeat (first | (with_reducible first | exact HB.out | apply below_alloc | apply pw_below_drewN | apply below_drew1) | exact HB.out)) hb); have n1_ := Aside0.mk (hbox); have n2_ := Aside0.mk ((by rw [hg]; exact (below_size (by repeat (first | (with_reducible first | exact HB.out | apply below_alloc | apply pw_below_drewN | apply below_drew1) | exact HB.out))) : w.heap.size ≤ gb194)); have n3_ := Aside0.mk ((by rw [hg]; exact (below_size (by repeat (first | (with_reducible first | exact HB.out | apply below_alloc | apply pw_below_drewN | apply below_drew1) | exact HB.out))) : w.heap.size ≤ gb194)); clear HB; have HB := n0_; have BK194 := n1_; have GW194 := n2_; have GE194 := n3_; clear n0_ n1_ n2_ n3_; clear hb hbox hg; have hcz6_0 : w5.cell? ⟨gb194, 0, none⟩ = some (.int .i64 a0_0) := (blk_cell BK194.out 0).trans rfl; have hcz6_1 : w5.cell? ⟨gb194, 1, none⟩ = some (.slice A0_1 l0_1.length c0_1) := (blk_cell BK194.out 1).trans rfl; have hfz6_0 := blk_frozen BK194.out 0; have hfz6_1 := blk_frozen BK194.out 1) | ((with_reducible refine gate_callee (f := 87) rfl ?_); refine goesL_ (some 8) rfl rfl Try.func87 (by kernel_rfl) rfl #[.slice A0_1 l0_1.length c0_1, .int .i64 a1] rfl (by (try simp only [List.map_toArray, List.map_cons, List.map_nil]); first | done | rfl | (simp only [List.length_drop, List.length_take]; rfl)) ?_; (with_reducible refine (laws_heldClueS.calls k _ _ l0_1 a1 t195 _ ?side1 ?side2 A3.out).mono ?_); (case side1 => repeat (first | exact (Kd.C_below HR0_1.out HB.out) | (with_reducible refine Kd.C_alloc ?_ _) | (with_reducible refine Kd.C_drewN ?_ _) | (with_reducible refine Kd.C_drew ?_))); (case side2 => exact HC0_1.out); rintro e w' ⟨rfl, ⟨nd, rfl⟩⟩; refine ⟨_, rfl, ?_⟩))
    go_ret
    exact ⟨by first | rfl | (simp [errW_none, errW_some] <;> rfl) | (simp [*, errW_none, errW_some] <;> rfl), by repeat (first | (with_reducible first | exact HB.out | apply below_alloc | apply pw_below_drewN | apply below_drew1 | refine below_set ?_ GE194.out) | exact HB.out)⟩

/-! ### laws_FnExactAddClue: function 11 -/
/-! ### The law of AddClue: its one way that answers true -/
def laws_FnExactAddClue.rest (k : Nat) (P1 : Int) (P2 : List S62) (W1 : Int) (W2 : List S62) (G1 : Int) (G2 : List S62) : Option Bool :=
  (laws_eqPuzzle.f k G1 G2 W1 W2).bind fun e1 => if e1 = true then ((laws_eqPuzzle.f k P1 P2 P1 P2).bind fun e2 => if e2 = true then ((laws_markPuzzle.f k P1 P2 1).bind fun M => if 0 ≤ M.1 then ((laws_markPuzzle.f k G1 G2 1).bind fun N => (laws_heldPuzzle.f k G1 N.2 1).bind fun q => if 0 ≤ q ∧ q = N.1 then some true else none) else none) else none) else none
def laws_FnExactAddClue.f (k : Nat) (a0_0 : Int) (l0_1 : List S54) (a1_0 a1_1 a1_2 : Int) : Option Bool :=
  (laws_szPuzzle.f a0_0 l0_1 1048576).bind fun t => if t < 0 then some true else ((laws_toPuzzle.f k a0_0 l0_1).bind fun P => (spec_AddClue.f k P.1 P.2 a1_0 a1_1 a1_2).bind fun W => (impl_AddClue.f k P.1 P.2 a1_0 a1_1 a1_2).bind fun G => if G.2.2 = W.2.2 then laws_FnExactAddClue.rest k P.1 P.2 W.1 W.2.1 G.1 G.2.1 else none)
theorem law_gate {P : Program} {ops : Array Oper} {o : Oper} {a : Act} {W : World} {Kc : Act → World → Prop} {Q : Exit → Act → World → Prop} {N : Tmp} (_hN : o.dst = some N) (h : if Region.wanted o (yielded ops a.tmps) = true then Oper.wp P o a W Kc Q else Kc (a.put o.dst undef) W) : if Region.wanted o (yielded ops a.tmps) = true then Oper.wp P o a W Kc Q else Kc (a.put o.dst undef) W := h
theorem law_undrew {w w' : World} (h : Below w.drew.heap.size w.drew w') : Below w.heap.size w w' := ⟨h.os, h.tape, h.output, h.size, h.block⟩
theorem law_unalloc {w w' : World} {o : Obj} (h : Below (w.alloc o).heap.size (w.alloc o) w') : Below w.heap.size w w' := below_then (below_alloc (Below.refl w.heap.size w) o) (below_alloc (Below.refl w.heap.size w) o).size h
/-- Two rows made one after the other lie apart. -/
def Apart (u v : Value) : Prop := ∀ k, u.ownBlock = some k → ¬ v.ownBlock = some k
theorem apart_new {α β : Type} {d : Kd α} {d' : Kd β} {e e' base base' : Nat} {ok ok' : Nat → Prop} {W W' : World} {u v : Value} {xs : List α} {ys : List β} (hu : Kd.R d e W base ok u xs) (hv : Kd.R d' e' W' base' ok' v ys) (hb : W.heap.size ≤ base') : Apart u v := fun k h1 h2 => by
  have a := Kd.R_lt hu k h1
  have b := Kd.R_base hv k h2
  omega
theorem Apart.symm {u v : Value} (h : Apart u v) : Apart v u := fun k h1 h2 => h k h2 h1
/-- A flat row, as the law keeps it. -/
theorem flat_kept {xs : List S62} {W W' : World} {base : Nat} {ok : Nat → Prop} {u v : Value} (h : Kd.R k62 62 W base ok u xs) (hk : Kept W W' (fun k => some k = v.ownBlock)) (ha : Apart u v) : Kd.R k62 62 W' base (fun _ => True) u xs :=
  Kd.R_mono (Kd.R_kept (Kd.R_tight rfl h) hk (fun k h1 h2 => ha k h1.symm h2.symm)) (fun _ _ => trivial)
theorem flat_true {xs : List S62} {W : World} {base : Nat} {ok : Nat → Prop} {u : Value} (h : Kd.R k62 62 W base ok u xs) : Kd.R k62 62 W base (fun _ => True) u xs := Kd.R_mono h (fun _ _ => trivial)
theorem box_kept {W W' : World} {base : Nat} {ok : Nat → Prop} {v : Value} {xs : List S62} {g : Nat} {t : TypeId} {cs : Array Value} (hb : W.heap[g]? = some (.cells cs t (0, 0))) (hk : Kept W W' (fun k => some k = v.ownBlock)) (hv : Kd.R k62 62 W base ok v xs) (ht : 62 ≠ t) : W'.heap[g]? = some (.cells cs t (0, 0)) := blk_kept hb hk (Kd.R_ne hv hb ht)
set_option maxHeartbeats 8000000 in
set_option maxRecDepth 100000 in
theorem laws_FnExactAddClue.calls (k : Nat) (a0_0 : Int) (A0_1 : Option Addr) (c0_1 : Nat) (l0_1 : List (S54)) (a1_0 : Int) (a1_1 : Int) (a1_2 : Int) (r : Bool) (w : World) (hr0_1 : Kd.C k54 w A0_1 l0_1.length l0_1) (hc0_1 : l0_1.length ≤ c0_1) (h : laws_FnExactAddClue.f k a0_0 l0_1 a1_0 a1_1 a1_2 = some r) :
    Calls Try.prog 11 #[.agg #[.int .i64 a0_0, .slice A0_1 l0_1.length c0_1], .agg #[.int .i64 a1_0, .int .i64 a1_1, .int .i64 a1_2]] w fun e w' => e = .returned (.bool r) ∧ Below w.heap.size w w' := by
  have huLP := Try.underlying52
  have huLC := Try.underlying54
  have huIP := Try.underlying58
  have huIC := Try.underlying62
  obtain ⟨t, hsz, h⟩ := Option.bind_eq_some_iff.mp h
  have HSZ := Aside0.mk hsz
  have HR := Aside0.mk hr0_1
  have HC := Aside0.mk hc0_1
  have HH := Aside0.mk h
  clear hsz hr0_1 hc0_1 h
  go_enter Try.func11, Try.ntmps11
  go_wp2_with (first | ((with_reducible refine gate_dst (N := 2) rfl ?_); refine box_event ?hg (N := 2) ?hd (cs := #[.int .i64 a0_0, .slice A0_1 l0_1.length c0_1]) (t := 52) ?hr ?_; (case hd => rfl); (case hg => rfl); (case hr => first | (go_simp; done) | (go_simp; rfl)); intro g2 hg_ v2 hbox_ hb_; have B2 := Aside0.mk hbox_; have HB := Aside0.mk hb_; clear hg_ hbox_ hb_) | ((with_reducible refine gate_dst (N := 3) rfl ?_); refine box_event ?hg (N := 3) ?hd (cs := #[.int .i64 a1_0, .int .i64 a1_1, .int .i64 a1_2]) (t := 54) ?hr ?_; (case hd => rfl); (case hg => rfl); (case hr => first | (go_simp; done) | (go_simp; rfl)); intro g3 hg_ v3 hbox_ hb_; have B3 := Aside0.mk hbox_; have n_ := Aside0.mk (below_step HB.out hb_); clear HB; have HB := n_; clear n_; have n_ := Aside0.mk (blk_below B2.out hb_); clear B2; have B2 := n_; clear n_; clear hg_ hbox_ hb_; have hz0 : v3.cell? ⟨g2, 0, none⟩ = some (.int .i64 a0_0) := (blk_cell B2.out 0).trans rfl; have hz1 : v3.cell? ⟨g2, 1, none⟩ = some (.slice A0_1 l0_1.length c0_1) := (blk_cell B2.out 1).trans rfl))
  refine (laws_szPuzzle.calls a0_0 A0_1 c0_1 l0_1 1048576 t _ (Kd.C_below HR.out HB.out) HC.out HSZ.out).mono ?_
  rintro e wa ⟨rfl, hb⟩
  have n_ := Aside0.mk (below_step HB.out hb); clear HB; have HB := n_; clear n_; have n_ := Aside0.mk (blk_below B2.out hb); clear B2; have B2 := n_; clear n_; have n_ := Aside0.mk (blk_below B3.out hb); clear B3; have B3 := n_; clear n_; clear hb hz0 hz1
  by_cases ht : t < 0
  · have hr : true = r := by
      have h := HH.out
      rw [if_pos ht] at h
      exact Option.some.inj h
    subst hr
    go_wp2
    ((try simp only [Exit.inBlock, Exit.then]); refine bodyPost_ret (results_tmp rfl _ _ _) rfl ?_)
    exact ⟨rfl, HB.out⟩
  · have h := HH.out
    rw [if_neg ht] at h
    clear HH
    replace h := Option.bind_eq_some_iff.mp h; obtain ⟨⟨P1, P2⟩, hP, h⟩ := h
    have HP := Aside0.mk hP
    clear hP
    replace h := Option.bind_eq_some_iff.mp h; obtain ⟨⟨W1, W2, W3⟩, hW, h⟩ := h
    have HW := Aside0.mk hW
    clear hW
    replace h := Option.bind_eq_some_iff.mp h; obtain ⟨⟨G1, G2, G3⟩, hG, h⟩ := h
    have HG := Aside0.mk hG
    clear hG
    by_cases hok : G3 = W3
    rotate_left
    · rw [if_neg hok] at h
      cases h
    rw [if_pos hok] at h
    subst hok
    replace h : laws_FnExactAddClue.rest k P1 P2 W1 W2 G1 G2 = some r := h
    unfold laws_FnExactAddClue.rest at h
    replace h := Option.bind_eq_some_iff.mp h; obtain ⟨e1, he1, h⟩ := h
    have He1 := Aside0.mk he1
    clear he1
    by_cases ce1 : e1 = true
    rotate_left
    · rw [if_neg ce1] at h
      cases h
    rw [if_pos ce1] at h
    subst ce1
    replace h := Option.bind_eq_some_iff.mp h; obtain ⟨e2, he2, h⟩ := h
    have He2 := Aside0.mk he2
    clear he2
    by_cases ce2 : e2 = true
    rotate_left
    · rw [if_neg ce2] at h
      cases h
    rw [if_pos ce2] at h
    subst ce2
    replace h := Option.bind_eq_some_iff.mp h; obtain ⟨⟨M1, M2⟩, hM, h⟩ := h
    have HM := Aside0.mk hM
    clear hM
    by_cases cM : 0 ≤ M1
    rotate_left
    · rw [if_neg cM] at h
      cases h
    rw [if_pos cM] at h
    replace h := Option.bind_eq_some_iff.mp h; obtain ⟨⟨N1, N2⟩, hN, h⟩ := h
    have HN := Aside0.mk hN
    clear hN
    replace h := Option.bind_eq_some_iff.mp h; obtain ⟨q, hq, h⟩ := h
    have Hq := Aside0.mk hq
    clear hq
    by_cases cq : 0 ≤ q ∧ q = N1
    rotate_left
    · rw [if_neg cq] at h
      cases h
    rw [if_pos cq] at h
    obtain ⟨cq0, rfl⟩ := cq
    have hr : true = r := Option.some.inj h
    subst hr
    clear h
    have nM : ¬ M1 < 0 := by omega
    have nq : ¬ q < 0 := by omega
    clear cM cq0
    go_upto_region 5 with (fail)
    go_cut [6, 7] (fun v6 v7 wc => ∃ (g6 : Nat) (Aw : Option Addr) (cw : Nat), v6 = .pointer (some ⟨g6, 0, none⟩) ∧ v7 = .bool G3 ∧ Aside0 (w.heap.size ≤ g6) ∧ Aside0 (Below w.heap.size w wc) ∧ Aside0 (wc.heap[g2]? = some (.cells #[.int .i64 a0_0, .slice A0_1 l0_1.length c0_1] 52 (0, 0))) ∧ Aside0 (wc.heap[g3]? = some (.cells #[.int .i64 a1_0, .int .i64 a1_1, .int .i64 a1_2] 54 (0, 0))) ∧ Aside0 (wc.heap[g6]? = some (.cells #[.int .i64 W1, .slice Aw W2.length cw] 58 (0, 0))) ∧ Aside0 (Kd.R k62 62 wc w.heap.size (fun _ => True) (.slice Aw W2.length cw) W2))
    case first =>
      have hz0 : wa.cell? ⟨g2, 0, none⟩ = some (.int .i64 a0_0) := (blk_cell B2.out 0).trans rfl
      have hz1 : wa.cell? ⟨g2, 1, none⟩ = some (.slice A0_1 l0_1.length c0_1) := (blk_cell B2.out 1).trans rfl
      have hz2 : wa.cell? ⟨g3, 0, none⟩ = some (.int .i64 a1_0) := (blk_cell B3.out 0).trans rfl
      have hz3 : wa.cell? ⟨g3, 1, none⟩ = some (.int .i64 a1_1) := (blk_cell B3.out 1).trans rfl
      have hz4 : wa.cell? ⟨g3, 2, none⟩ = some (.int .i64 a1_2) := (blk_cell B3.out 2).trans rfl
      go_region_held3 (fun w' => w'.cell? ⟨g2, 0, none⟩ = some (.int .i64 a0_0) ∧ w'.cell? ⟨g2, 1, none⟩ = some (.slice A0_1 l0_1.length c0_1) ∧ w'.cell? ⟨g3, 0, none⟩ = some (.int .i64 a1_0) ∧ w'.cell? ⟨g3, 1, none⟩ = some (.int .i64 a1_1) ∧ w'.cell? ⟨g3, 2, none⟩ = some (.int .i64 a1_2)) (first | exact ⟨hz0, hz1, hz2, hz3, hz4⟩ | exact ⟨(blk_cell B2.out 0).trans rfl, (blk_cell B2.out 1).trans rfl, (blk_cell B3.out 0).trans rfl, (blk_cell B3.out 1).trans rfl, (blk_cell B3.out 2).trans rfl⟩ | exact ⟨(blk_cell (blk_alloc B2.out _) 0).trans rfl, (blk_cell (blk_alloc B2.out _) 1).trans rfl, (blk_cell (blk_alloc B3.out _) 0).trans rfl, (blk_cell (blk_alloc B3.out _) 1).trans rfl, (blk_cell (blk_alloc B3.out _) 2).trans rfl⟩ | exact ⟨(blk_cell (blk_far (blk_far B2.out (blk_ne B2.out B6.out (by decide)) _) (blk_ne B2.out B6.out (by decide)) _) 0).trans rfl, (blk_cell (blk_far (blk_far B2.out (blk_ne B2.out B6.out (by decide)) _) (blk_ne B2.out B6.out (by decide)) _) 1).trans rfl, (blk_cell (blk_far (blk_far B3.out (blk_ne B3.out B6.out (by decide)) _) (blk_ne B3.out B6.out (by decide)) _) 0).trans rfl, (blk_cell (blk_far (blk_far B3.out (blk_ne B3.out B6.out (by decide)) _) (blk_ne B3.out B6.out (by decide)) _) 1).trans rfl, (blk_cell (blk_far (blk_far B3.out (blk_ne B3.out B6.out (by decide)) _) (blk_ne B3.out B6.out (by decide)) _) 2).trans rfl⟩) (first | (go_at_call 43; refine (laws_toPuzzle.calls k a0_0 A0_1 c0_1 l0_1 P1 P2 _ ?s1 HC.out HP.out).mono ?_; (case s1 => repeat (first | exact Kd.C_below HR.out HB.out | refine Kd.C_drew ?_ | refine Kd.C_alloc ?_ _)); rintro e w_ ⟨v_, rfl, ho_, hb_⟩; (try replace hb_ := law_undrew hb_); (try (have B6 := Aside0.mk (blk_below (heap_alloc_new _ _) hb_); have B6g := Aside0.mk (show w.heap.size ≤ _ from HB.out.size); replace hb_ := law_unalloc hb_)); obtain ⟨Ap, cp, ev_⟩ := Kd.R_slice ho_; subst ev_; have HRP := Aside0.mk (show Kd.R k62 62 w_ w.heap.size (fun _ => True) (.slice Ap P2.length cp) P2 from Kd.R_lower ho_ (by first | exact HB.out.size | exact (below_alloc HB.out _).size)); have n_ := Aside0.mk (below_step HB.out hb_); clear HB; have HB := n_; clear n_; have n_ := Aside0.mk (blk_below B2.out hb_); clear B2; have B2 := n_; clear n_; have n_ := Aside0.mk (blk_below B3.out hb_); clear B3; have B3 := n_; clear n_; (try (have n_ := Aside0.mk (blk_below B6.out hb_); clear B6; have B6 := n_; clear n_)); clear ho_ hb_) | (go_at_call 44; refine (laws_toClue.calls a1_0 a1_1 a1_2 a1_0 a1_1 a1_2 _ rfl).mono ?_; rintro e w_ ⟨rfl, hb_⟩; (try replace hb_ := law_undrew hb_); (try (have B6 := Aside0.mk (blk_below (heap_alloc_new _ _) hb_); have B6g := Aside0.mk (show w.heap.size ≤ _ from HB.out.size); replace hb_ := law_unalloc hb_)); have n_ := Aside0.mk (below_step HB.out hb_); clear HB; have HB := n_; clear n_; have n_ := Aside0.mk (blk_below B2.out hb_); clear B2; have B2 := n_; clear n_; have n_ := Aside0.mk (blk_below B3.out hb_); clear B3; have B3 := n_; clear n_; (try (have n_ := Aside0.mk (blk_below B6.out hb_); clear B6; have B6 := n_; clear n_)); (try (have n_ := Aside0.mk (Kd.R_below HRP.out hb_); clear HRP; have HRP := n_; clear n_)); clear hb_) | (go_at_call 42; refine (spec_AddClue.calls k P1 Ap cp P2 a1_0 a1_1 a1_2 W1 W2 G3 _ ?s1 ?s2 HW.out).mono ?_; (case s1 => repeat (first | exact (Kd.R_reads' HRP.out).2.2 | refine Kd.C_alloc ?_ _)); (case s2 => exact (Kd.R_reads' HRP.out).2.1); rintro e w_ ⟨v_, rfl, ho_, hb_⟩; (try replace hb_ := law_undrew hb_); (try (have B6 := Aside0.mk (blk_below (heap_alloc_new _ _) hb_); have B6g := Aside0.mk (show w.heap.size ≤ _ from HB.out.size); replace hb_ := law_unalloc hb_)); obtain ⟨Aw, cw, ev_⟩ := Kd.R_slice ho_; subst ev_; have HRW := Aside0.mk (show Kd.R k62 62 w_ w.heap.size (fun _ => True) (.slice Aw W2.length cw) W2 from Kd.R_lower ho_ (by first | exact HB.out.size | exact (below_alloc HB.out _).size)); have n_ := Aside0.mk (below_step HB.out hb_); clear HB; have HB := n_; clear n_; have n_ := Aside0.mk (blk_below B2.out hb_); clear B2; have B2 := n_; clear n_; have n_ := Aside0.mk (blk_below B3.out hb_); clear B3; have B3 := n_; clear n_; (try (have n_ := Aside0.mk (blk_below B6.out hb_); clear B6; have B6 := n_; clear n_)); clear ho_ hb_; (try (have hy0 := (blk_cell B6.out 0).trans rfl; have hy1 := (blk_cell B6.out 1).trans rfl; have hyf0 := blk_frozen B6.out 0; have hyf1 := blk_frozen B6.out 1))))
      all_goals
        go_wp2_with fail
        go_meet
        case rel => first | exact ⟨_, Aw, cw, rfl, rfl, ⟨HB.out.size⟩, ⟨below_alloc HB.out _⟩, ⟨blk_alloc B2.out _⟩, ⟨blk_alloc B3.out _⟩, ⟨heap_alloc_new _ _⟩, ⟨Kd.R_alloc HRW.out _⟩⟩ | exact ⟨_, Aw, cw, rfl, rfl, ⟨B6g.out⟩, ⟨below_set (below_set HB.out B6g.out) B6g.out⟩, ⟨blk_far (blk_far B2.out (blk_ne B2.out B6.out (by decide)) _) (blk_ne B2.out B6.out (by decide)) _⟩, ⟨blk_far (blk_far B3.out (blk_ne B3.out B6.out (by decide)) _) (blk_ne B3.out B6.out (by decide)) _⟩, ⟨blk_put (blk_put B6.out 0 _ rfl) 1 _ rfl⟩, ⟨Kd.R_set (Kd.R_set HRW.out B6.out (by decide) 0 _) (blk_put B6.out 0 _ rfl) (by decide) 1 _⟩⟩
    case rest =>
      obtain ⟨g6, Aw, cw, rfl, rfl, B6g, HB, B2, B3, B6, HRW⟩ := hcut
      have hz0 : wc.cell? ⟨g2, 0, none⟩ = some (.int .i64 a0_0) := (blk_cell B2.out 0).trans rfl
      have hz1 : wc.cell? ⟨g2, 1, none⟩ = some (.slice A0_1 l0_1.length c0_1) := (blk_cell B2.out 1).trans rfl
      go_wp2_with fail
      refine (laws_toPuzzle.calls k a0_0 A0_1 c0_1 l0_1 P1 P2 _ (Kd.C_below HR.out HB.out) HC.out HP.out).mono ?_
      rintro e wx ⟨v_, rfl, ho_, hb_⟩
      obtain ⟨Ax, cx, ev_⟩ := Kd.R_slice ho_
      subst ev_
      have AWX := Aside0.mk (apart_new HRW.out ho_ (Nat.le_refl _))
      have HRX := Aside0.mk (show Kd.R k62 62 wx w.heap.size (fun _ => True) (.slice Ax P2.length cx) P2 from Kd.R_lower ho_ HB.out.size)
      have n_ := Aside0.mk (below_step HB.out hb_); clear HB; have HB := n_; clear n_; have n_ := Aside0.mk (blk_below B2.out hb_); clear B2; have B2 := n_; clear n_; have n_ := Aside0.mk (blk_below B3.out hb_); clear B3; have B3 := n_; clear n_; have n_ := Aside0.mk (blk_below B6.out hb_); clear B6; have B6 := n_; clear n_; have n_ := Aside0.mk (Kd.R_below HRW.out hb_); clear HRW; have HRW := n_; clear n_
      clear hb_ ho_ hz0 hz1
      go_upto_region 7 with (fail)
      obtain ⟨w7, hw7⟩ : ∃ W, W = wx.alloc (.cells #[.int .i64 P1, .slice Ax P2.length cx] 58) := ⟨_, rfl⟩
      rw [← hw7]
      have hb_ : Below wx.heap.size wx w7 := by rw [hw7]; exact below_alloc (Below.refl _ _) _
      have B8 := Aside0.mk (show w7.heap[wx.heap.size]? = some (.cells #[.int .i64 P1, .slice Ax P2.length cx] 58 (0, 0)) by rw [hw7]; exact heap_alloc_new _ _)
      have n_ := Aside0.mk (below_step HB.out hb_); clear HB; have HB := n_; clear n_; have n_ := Aside0.mk (blk_below B2.out hb_); clear B2; have B2 := n_; clear n_; have n_ := Aside0.mk (blk_below B3.out hb_); clear B3; have B3 := n_; clear n_; have n_ := Aside0.mk (blk_below B6.out hb_); clear B6; have B6 := n_; clear n_; have n_ := Aside0.mk (Kd.R_below HRW.out hb_); clear HRW; have HRW := n_; clear n_; have n_ := Aside0.mk (Kd.R_below HRX.out hb_); clear HRX; have HRX := n_; clear n_
      clear hb_ hw7
      generalize wx.heap.size = g8 at B8 ⊢
      go_cut [9, 10] (fun v9 v10 wd => ∃ (g9 : Nat) (Ag : Option Addr) (cg : Nat), v9 = .pointer (some ⟨g9, 0, none⟩) ∧ v10 = .bool G3 ∧ Aside0 (w.heap.size ≤ g9) ∧ Aside0 (Below w.heap.size w wd) ∧ Aside0 (wd.heap[g2]? = some (.cells #[.int .i64 a0_0, .slice A0_1 l0_1.length c0_1] 52 (0, 0))) ∧ Aside0 (wd.heap[g3]? = some (.cells #[.int .i64 a1_0, .int .i64 a1_1, .int .i64 a1_2] 54 (0, 0))) ∧ Aside0 (wd.heap[g6]? = some (.cells #[.int .i64 W1, .slice Aw W2.length cw] 58 (0, 0))) ∧ Aside0 (wd.heap[g8]? = some (.cells #[.int .i64 P1, .slice Ax P2.length cx] 58 (0, 0))) ∧ Aside0 (wd.heap[g9]? = some (.cells #[.int .i64 G1, .slice Ag G2.length cg] 58 (0, 0))) ∧ Aside0 (Kd.R k62 62 wd w.heap.size (fun _ => True) (.slice Aw W2.length cw) W2) ∧ Aside0 (Kd.R k62 62 wd w.heap.size (fun _ => True) (.slice Ax P2.length cx) P2) ∧ Aside0 (Kd.R k62 62 wd w.heap.size (fun _ => True) (.slice Ag G2.length cg) G2) ∧ Aside0 (Apart (.slice Aw W2.length cw) (.slice Ag G2.length cg) ∧ Apart (.slice Ax P2.length cx) (.slice Ag G2.length cg)))
      case first =>
        have hz0 : w7.cell? ⟨g8, 0, none⟩ = some (.int .i64 P1) := (blk_cell B8.out 0).trans rfl
        have hz1 : w7.cell? ⟨g8, 1, none⟩ = some (.slice Ax P2.length cx) := (blk_cell B8.out 1).trans rfl
        have hz2 : w7.cell? ⟨g3, 0, none⟩ = some (.int .i64 a1_0) := (blk_cell B3.out 0).trans rfl
        have hz3 : w7.cell? ⟨g3, 1, none⟩ = some (.int .i64 a1_1) := (blk_cell B3.out 1).trans rfl
        have hz4 : w7.cell? ⟨g3, 2, none⟩ = some (.int .i64 a1_2) := (blk_cell B3.out 2).trans rfl
        go_region_held3 (fun w' => w'.cell? ⟨g8, 0, none⟩ = some (.int .i64 P1) ∧ w'.cell? ⟨g8, 1, none⟩ = some (.slice Ax P2.length cx) ∧ w'.cell? ⟨g3, 0, none⟩ = some (.int .i64 a1_0) ∧ w'.cell? ⟨g3, 1, none⟩ = some (.int .i64 a1_1) ∧ w'.cell? ⟨g3, 2, none⟩ = some (.int .i64 a1_2)) (first | exact ⟨hz0, hz1, hz2, hz3, hz4⟩ | exact ⟨(blk_cell B8.out 0).trans rfl, (blk_cell B8.out 1).trans rfl, (blk_cell B3.out 0).trans rfl, (blk_cell B3.out 1).trans rfl, (blk_cell B3.out 2).trans rfl⟩ | exact ⟨(blk_cell (blk_alloc B8.out _) 0).trans rfl, (blk_cell (blk_alloc B8.out _) 1).trans rfl, (blk_cell (blk_alloc B3.out _) 0).trans rfl, (blk_cell (blk_alloc B3.out _) 1).trans rfl, (blk_cell (blk_alloc B3.out _) 2).trans rfl⟩ | exact ⟨(blk_cell (blk_far (blk_far B8.out B8_B9.out _) B8_B9.out _) 0).trans rfl, (blk_cell (blk_far (blk_far B8.out B8_B9.out _) B8_B9.out _) 1).trans rfl, (blk_cell (blk_far (blk_far B3.out B3_B9.out _) B3_B9.out _) 0).trans rfl, (blk_cell (blk_far (blk_far B3.out B3_B9.out _) B3_B9.out _) 1).trans rfl, (blk_cell (blk_far (blk_far B3.out B3_B9.out _) B3_B9.out _) 2).trans rfl⟩) (first | (go_at_call 44; refine (laws_toClue.calls a1_0 a1_1 a1_2 a1_0 a1_1 a1_2 _ rfl).mono ?_; rintro e w_ ⟨rfl, hb_⟩; (try replace hb_ := law_undrew hb_); (try (have B9 := Aside0.mk (blk_below (heap_alloc_new _ _) hb_); have B9g := Aside0.mk (show w.heap.size ≤ _ from HB.out.size); have B2_B9 := Aside0.mk (Nat.ne_of_lt (blk_lt B2.out)); have B3_B9 := Aside0.mk (Nat.ne_of_lt (blk_lt B3.out)); have B6_B9 := Aside0.mk (Nat.ne_of_lt (blk_lt B6.out)); have B8_B9 := Aside0.mk (Nat.ne_of_lt (blk_lt B8.out)); replace hb_ := law_unalloc hb_)); have n_ := Aside0.mk (below_step HB.out hb_); clear HB; have HB := n_; clear n_; have n_ := Aside0.mk (blk_below B2.out hb_); clear B2; have B2 := n_; clear n_; have n_ := Aside0.mk (blk_below B3.out hb_); clear B3; have B3 := n_; clear n_; have n_ := Aside0.mk (blk_below B6.out hb_); clear B6; have B6 := n_; clear n_; have n_ := Aside0.mk (blk_below B8.out hb_); clear B8; have B8 := n_; clear n_; have n_ := Aside0.mk (Kd.R_below HRW.out hb_); clear HRW; have HRW := n_; clear n_; have n_ := Aside0.mk (Kd.R_below HRX.out hb_); clear HRX; have HRX := n_; clear n_; (try (have n_ := Aside0.mk (blk_below B9.out hb_); clear B9; have B9 := n_; clear n_)); skip; clear hb_) | (go_at_call 45; refine (impl_AddClue.calls k P1 Ax cx P2 a1_0 a1_1 a1_2 G1 G2 G3 _ ?s1 ?s2 HG.out).mono ?_; (case s1 => repeat (first | exact (Kd.R_reads' HRX.out).2.2 | refine Kd.C_drew ?_ | refine Kd.C_alloc ?_ _)); (case s2 => exact (Kd.R_reads' HRX.out).2.1); rintro e w_ ⟨v_, rfl, ho_, hb_⟩; (try replace hb_ := law_undrew hb_); (try (have B9 := Aside0.mk (blk_below (heap_alloc_new _ _) hb_); have B9g := Aside0.mk (show w.heap.size ≤ _ from HB.out.size); have B2_B9 := Aside0.mk (Nat.ne_of_lt (blk_lt B2.out)); have B3_B9 := Aside0.mk (Nat.ne_of_lt (blk_lt B3.out)); have B6_B9 := Aside0.mk (Nat.ne_of_lt (blk_lt B6.out)); have B8_B9 := Aside0.mk (Nat.ne_of_lt (blk_lt B8.out)); replace hb_ := law_unalloc hb_)); obtain ⟨Ag, cg, ev_⟩ := Kd.R_slice ho_; subst ev_; have AWG := Aside0.mk (apart_new HRW.out ho_ (by first | exact Nat.le_refl _ | simp)); have AXG := Aside0.mk (apart_new HRX.out ho_ (by first | exact Nat.le_refl _ | simp)); have HRG := Aside0.mk (show Kd.R k62 62 w_ w.heap.size (fun _ => True) (.slice Ag G2.length cg) G2 from Kd.R_lower ho_ (by first | exact HB.out.size | exact (below_alloc HB.out _).size)); have n_ := Aside0.mk (below_step HB.out hb_); clear HB; have HB := n_; clear n_; have n_ := Aside0.mk (blk_below B2.out hb_); clear B2; have B2 := n_; clear n_; have n_ := Aside0.mk (blk_below B3.out hb_); clear B3; have B3 := n_; clear n_; have n_ := Aside0.mk (blk_below B6.out hb_); clear B6; have B6 := n_; clear n_; have n_ := Aside0.mk (blk_below B8.out hb_); clear B8; have B8 := n_; clear n_; have n_ := Aside0.mk (Kd.R_below HRW.out hb_); clear HRW; have HRW := n_; clear n_; have n_ := Aside0.mk (Kd.R_below HRX.out hb_); clear HRX; have HRX := n_; clear n_; (try (have n_ := Aside0.mk (blk_below B9.out hb_); clear B9; have B9 := n_; clear n_)); skip; (try (have hy0 := (blk_cell B9.out 0).trans rfl; have hy1 := (blk_cell B9.out 1).trans rfl; have hyf0 := blk_frozen B9.out 0; have hyf1 := blk_frozen B9.out 1)); clear ho_ hb_))
        all_goals
          go_wp2_with fail
          go_meet
          case rel => first | exact ⟨_, Ag, cg, rfl, rfl, ⟨HB.out.size⟩, ⟨below_alloc HB.out _⟩, ⟨blk_alloc B2.out _⟩, ⟨blk_alloc B3.out _⟩, ⟨blk_alloc B6.out _⟩, ⟨blk_alloc B8.out _⟩, ⟨heap_alloc_new _ _⟩, ⟨Kd.R_alloc HRW.out _⟩, ⟨Kd.R_alloc HRX.out _⟩, ⟨Kd.R_alloc HRG.out _⟩, ⟨AWG.out, AXG.out⟩⟩ | exact ⟨_, Ag, cg, rfl, rfl, ⟨B9g.out⟩, ⟨below_set (below_set HB.out B9g.out) B9g.out⟩, ⟨blk_far (blk_far B2.out B2_B9.out _) B2_B9.out _⟩, ⟨blk_far (blk_far B3.out B3_B9.out _) B3_B9.out _⟩, ⟨blk_far (blk_far B6.out B6_B9.out _) B6_B9.out _⟩, ⟨blk_far (blk_far B8.out B8_B9.out _) B8_B9.out _⟩, ⟨blk_put (blk_put B9.out 0 _ rfl) 1 _ rfl⟩, ⟨Kd.R_set (Kd.R_set HRW.out B9.out (by decide) 0 _) (blk_put B9.out 0 _ rfl) (by decide) 1 _⟩, ⟨Kd.R_set (Kd.R_set HRX.out B9.out (by decide) 0 _) (blk_put B9.out 0 _ rfl) (by decide) 1 _⟩, ⟨Kd.R_set (Kd.R_set HRG.out B9.out (by decide) 0 _) (blk_put B9.out 0 _ rfl) (by decide) 1 _⟩, ⟨AWG.out, AXG.out⟩⟩
      case rest =>
        obtain ⟨g9, Ag, cg, rfl, rfl, B9g, HB, B2, B3, B6, B8, B9, HRW, HRX, HRG, AG⟩ := hcut
        have hbne : (G3 != G3) = false := bne_self_eq_false G3
        have hz0 : wc.cell? ⟨g9, 0, none⟩ = some (.int .i64 G1) := (blk_cell B9.out 0).trans rfl
        have hz1 : wc.cell? ⟨g9, 1, none⟩ = some (.slice Ag G2.length cg) := (blk_cell B9.out 1).trans rfl
        have hz2 : wc.cell? ⟨g6, 0, none⟩ = some (.int .i64 W1) := (blk_cell B6.out 0).trans rfl
        have hz3 : wc.cell? ⟨g6, 1, none⟩ = some (.slice Aw W2.length cw) := (blk_cell B6.out 1).trans rfl
        go_wp2_with fail
        refine (laws_eqPuzzle.calls k G1 Ag cg G2 W1 Aw cw W2 true _ (Kd.R_reads' HRG.out).2.2 (Kd.R_reads' HRG.out).2.1 (Kd.R_reads' HRW.out).2.2 (Kd.R_reads' HRW.out).2.1 He1.out).mono ?_
        rintro e we ⟨rfl, hb_⟩
        have n_ := Aside0.mk (below_step HB.out hb_); clear HB; have HB := n_; clear n_; have n_ := Aside0.mk (blk_below B2.out hb_); clear B2; have B2 := n_; clear n_; have n_ := Aside0.mk (blk_below B3.out hb_); clear B3; have B3 := n_; clear n_; have n_ := Aside0.mk (blk_below B6.out hb_); clear B6; have B6 := n_; clear n_; have n_ := Aside0.mk (blk_below B8.out hb_); clear B8; have B8 := n_; clear n_; have n_ := Aside0.mk (blk_below B9.out hb_); clear B9; have B9 := n_; clear n_; have n_ := Aside0.mk (Kd.R_below HRW.out hb_); clear HRW; have HRW := n_; clear n_; have n_ := Aside0.mk (Kd.R_below HRX.out hb_); clear HRX; have HRX := n_; clear n_; have n_ := Aside0.mk (Kd.R_below HRG.out hb_); clear HRG; have HRG := n_; clear n_
        clear hb_ hz0 hz1 hz2 hz3
        have hz0 : we.cell? ⟨g8, 0, none⟩ = some (.int .i64 P1) := (blk_cell B8.out 0).trans rfl
        have hz1 : we.cell? ⟨g8, 1, none⟩ = some (.slice Ax P2.length cx) := (blk_cell B8.out 1).trans rfl
        have hz2 : we.cell? ⟨g2, 0, none⟩ = some (.int .i64 a0_0) := (blk_cell B2.out 0).trans rfl
        have hz3 : we.cell? ⟨g2, 1, none⟩ = some (.slice A0_1 l0_1.length c0_1) := (blk_cell B2.out 1).trans rfl
        go_upto_region 10 with (fail)
        go_region_held3 (fun w' => w'.cell? ⟨g8, 0, none⟩ = some (.int .i64 P1) ∧ w'.cell? ⟨g8, 1, none⟩ = some (.slice Ax P2.length cx) ∧ w'.cell? ⟨g2, 0, none⟩ = some (.int .i64 a0_0) ∧ w'.cell? ⟨g2, 1, none⟩ = some (.slice A0_1 l0_1.length c0_1)) (first | exact ⟨hz0, hz1, hz2, hz3⟩ | exact ⟨(blk_cell B8.out 0).trans rfl, (blk_cell B8.out 1).trans rfl, (blk_cell B2.out 0).trans rfl, (blk_cell B2.out 1).trans rfl⟩ | exact ⟨(blk_cell (blk_alloc B8.out _) 0).trans rfl, (blk_cell (blk_alloc B8.out _) 1).trans rfl, (blk_cell (blk_alloc B2.out _) 0).trans rfl, (blk_cell (blk_alloc B2.out _) 1).trans rfl⟩) (first | (go_at_call 43; refine (laws_toPuzzle.calls k a0_0 A0_1 c0_1 l0_1 P1 P2 _ ?s1 HC.out HP.out).mono ?_; (case s1 => repeat (first | exact Kd.C_below HR.out HB.out | refine Kd.C_drew ?_)); rintro e w_ ⟨v_, rfl, ho_, hb_⟩; (try replace hb_ := law_undrew hb_); obtain ⟨Ay, cy, ev_⟩ := Kd.R_slice ho_; subst ev_; have HRY := Aside0.mk (show Kd.R k62 62 w_ w.heap.size (fun _ => True) (.slice Ay P2.length cy) P2 from Kd.R_lower ho_ HB.out.size); have n_ := Aside0.mk (below_step HB.out hb_); clear HB; have HB := n_; clear n_; have n_ := Aside0.mk (blk_below B2.out hb_); clear B2; have B2 := n_; clear n_; have n_ := Aside0.mk (blk_below B3.out hb_); clear B3; have B3 := n_; clear n_; have n_ := Aside0.mk (blk_below B6.out hb_); clear B6; have B6 := n_; clear n_; have n_ := Aside0.mk (blk_below B8.out hb_); clear B8; have B8 := n_; clear n_; have n_ := Aside0.mk (blk_below B9.out hb_); clear B9; have B9 := n_; clear n_; have n_ := Aside0.mk (Kd.R_below HRW.out hb_); clear HRW; have HRW := n_; clear n_; have n_ := Aside0.mk (Kd.R_below HRX.out hb_); clear HRX; have HRX := n_; clear n_; have n_ := Aside0.mk (Kd.R_below HRG.out hb_); clear HRG; have HRG := n_; clear n_; clear ho_ hb_) | (go_at_call 46; refine (laws_eqPuzzle.calls k P1 Ax cx P2 P1 Ay cy P2 true _ ?s1 ?s2 ?s3 ?s4 He2.out).mono ?_; (case s1 => exact (Kd.R_reads' HRX.out).2.2); (case s2 => exact (Kd.R_reads' HRX.out).2.1); (case s3 => exact (Kd.R_reads' HRY.out).2.2); (case s4 => exact (Kd.R_reads' HRY.out).2.1); rintro e wf_ ⟨rfl, hb_⟩; (try replace hb_ := law_undrew hb_); have n_ := Aside0.mk (below_step HB.out hb_); clear HB; have HB := n_; clear n_; have n_ := Aside0.mk (blk_below B2.out hb_); clear B2; have B2 := n_; clear n_; have n_ := Aside0.mk (blk_below B3.out hb_); clear B3; have B3 := n_; clear n_; have n_ := Aside0.mk (blk_below B6.out hb_); clear B6; have B6 := n_; clear n_; have n_ := Aside0.mk (blk_below B8.out hb_); clear B8; have B8 := n_; clear n_; have n_ := Aside0.mk (blk_below B9.out hb_); clear B9; have B9 := n_; clear n_; have n_ := Aside0.mk (Kd.R_below HRW.out hb_); clear HRW; have HRW := n_; clear n_; have n_ := Aside0.mk (Kd.R_below HRX.out hb_); clear HRX; have HRX := n_; clear n_; have n_ := Aside0.mk (Kd.R_below HRG.out hb_); clear HRG; have HRG := n_; clear n_; clear hb_))
        clear hz0 hz1 hz2 hz3
        have hz0 : wf_.cell? ⟨g8, 0, none⟩ = some (.int .i64 P1) := (blk_cell B8.out 0).trans rfl
        have hz1 : wf_.cell? ⟨g8, 1, none⟩ = some (.slice Ax P2.length cx) := (blk_cell B8.out 1).trans rfl
        go_wp2_with fail
        refine (laws_markPuzzle.calls k P1 (fun k_ => some k_ = (Value.slice Ax P2.length cx).ownBlock) (.slice Ax P2.length cx) P2 1 M1 M2 w _ HB.out (Kd.R_tight rfl HRX.out) HM.out).mono ?_
        rintro e wg ⟨rfl, ho_, hb_, hk_⟩
        have n_ := Aside0.mk (box_kept B2.out hk_ HRX.out (by decide)); clear B2; have B2 := n_; clear n_
        have n_ := Aside0.mk (box_kept B3.out hk_ HRX.out (by decide)); clear B3; have B3 := n_; clear n_
        have n_ := Aside0.mk (box_kept B6.out hk_ HRX.out (by decide)); clear B6; have B6 := n_; clear n_
        have n_ := Aside0.mk (box_kept B8.out hk_ HRX.out (by decide)); clear B8; have B8 := n_; clear n_
        have n_ := Aside0.mk (box_kept B9.out hk_ HRX.out (by decide)); clear B9; have B9 := n_; clear n_
        have n_ := Aside0.mk (flat_kept HRW.out hk_ (AWX.out)); clear HRW; have HRW := n_; clear n_
        have n_ := Aside0.mk (flat_kept HRG.out hk_ (AG.out.2.symm)); clear HRG; have HRG := n_; clear n_
        have n_ := Aside0.mk (hb_); clear HB; have HB := n_; clear n_
        have n_ := Aside0.mk (flat_true ho_); clear HRX; have HRX := n_; clear n_
        clear ho_ hb_ hk_ hz0 hz1
        have hz0 : wg.cell? ⟨g9, 0, none⟩ = some (.int .i64 G1) := (blk_cell B9.out 0).trans rfl
        have hz1 : wg.cell? ⟨g9, 1, none⟩ = some (.slice Ag G2.length cg) := (blk_cell B9.out 1).trans rfl
        have hz2 : wg.cell? ⟨g6, 0, none⟩ = some (.int .i64 W1) := (blk_cell B6.out 0).trans rfl
        have hz3 : wg.cell? ⟨g6, 1, none⟩ = some (.slice Aw W2.length cw) := (blk_cell B6.out 1).trans rfl
        go_wp2_with fail
        refine (laws_eqPuzzle.calls k G1 Ag cg G2 W1 Aw cw W2 true _ (Kd.R_reads' HRG.out).2.2 (Kd.R_reads' HRG.out).2.1 (Kd.R_reads' HRW.out).2.2 (Kd.R_reads' HRW.out).2.1 He1.out).mono ?_
        rintro e wh ⟨rfl, hb_⟩
        have n_ := Aside0.mk (below_step HB.out hb_); clear HB; have HB := n_; clear n_; have n_ := Aside0.mk (blk_below B2.out hb_); clear B2; have B2 := n_; clear n_; have n_ := Aside0.mk (blk_below B3.out hb_); clear B3; have B3 := n_; clear n_; have n_ := Aside0.mk (blk_below B6.out hb_); clear B6; have B6 := n_; clear n_; have n_ := Aside0.mk (blk_below B9.out hb_); clear B9; have B9 := n_; clear n_; have n_ := Aside0.mk (Kd.R_below HRW.out hb_); clear HRW; have HRW := n_; clear n_; have n_ := Aside0.mk (Kd.R_below HRG.out hb_); clear HRG; have HRG := n_; clear n_
        clear hb_ hz0 hz1 hz2 hz3
        have hz0 : wh.cell? ⟨g9, 0, none⟩ = some (.int .i64 G1) := (blk_cell B9.out 0).trans rfl
        have hz1 : wh.cell? ⟨g9, 1, none⟩ = some (.slice Ag G2.length cg) := (blk_cell B9.out 1).trans rfl
        go_wp2_with fail
        refine (laws_markPuzzle.calls k G1 (fun k_ => some k_ = (Value.slice Ag G2.length cg).ownBlock) (.slice Ag G2.length cg) G2 1 q N2 w _ HB.out (Kd.R_tight rfl HRG.out) HN.out).mono ?_
        rintro e wi ⟨rfl, ho_, hb_, hk_⟩
        have n_ := Aside0.mk (box_kept B2.out hk_ HRG.out (by decide)); clear B2; have B2 := n_; clear n_
        have n_ := Aside0.mk (box_kept B3.out hk_ HRG.out (by decide)); clear B3; have B3 := n_; clear n_
        have n_ := Aside0.mk (box_kept B6.out hk_ HRG.out (by decide)); clear B6; have B6 := n_; clear n_
        have n_ := Aside0.mk (box_kept B9.out hk_ HRG.out (by decide)); clear B9; have B9 := n_; clear n_
        have n_ := Aside0.mk (flat_kept HRW.out hk_ (AG.out.1)); clear HRW; have HRW := n_; clear n_
        have n_ := Aside0.mk (hb_); clear HB; have HB := n_; clear n_
        have n_ := Aside0.mk (flat_true ho_); clear HRG; have HRG := n_; clear n_
        clear ho_ hb_ hk_ hz0 hz1
        have hl := (Kd.R_reads' HRG.out).1
        have HL := Aside0.mk hl
        clear hl
        have hqn : (q != q) = false := bne_self_eq_false q
        have hqe : (q == q) = true := beq_self_eq_true q
        have hz0 : wi.cell? ⟨g9, 0, none⟩ = some (.int .i64 G1) := (blk_cell B9.out 0).trans rfl
        have hz1 : wi.cell? ⟨g9, 1, none⟩ = some (.slice Ag G2.length cg) := (blk_cell B9.out 1).trans rfl
        go_wp2_with fail
        have hc_ := laws_heldPuzzle.calls k G1 Ag cg N2 1 q wi (Kd.R_reads' HRG.out).2.2 (by rw [← HL.out]; exact (Kd.R_reads' HRG.out).2.1) Hq.out
        rw [← HL.out] at hc_
        refine hc_.mono ?_
        clear hc_
        rintro e wj ⟨rfl, hb_⟩
        have n_ := Aside0.mk (below_step HB.out hb_); clear HB; have HB := n_; clear n_; have n_ := Aside0.mk (blk_below B2.out hb_); clear B2; have B2 := n_; clear n_; have n_ := Aside0.mk (blk_below B3.out hb_); clear B3; have B3 := n_; clear n_; have n_ := Aside0.mk (blk_below B6.out hb_); clear B6; have B6 := n_; clear n_; have n_ := Aside0.mk (blk_below B9.out hb_); clear B9; have B9 := n_; clear n_; have n_ := Aside0.mk (Kd.R_below HRW.out hb_); clear HRW; have HRW := n_; clear n_; have n_ := Aside0.mk (Kd.R_below HRG.out hb_); clear HRG; have HRG := n_; clear n_
        clear hb_ hz0 hz1
        go_upto_region 24 with (fail)
        go_cut [14, 15] (fun v14 v15 wc => ∃ (g14 : Nat) (Ah : Option Addr) (ch : Nat), v14 = .pointer (some ⟨g14, 0, none⟩) ∧ v15 = .bool G3 ∧ Aside0 (w.heap.size ≤ g14) ∧ Aside0 (Below w.heap.size w wc) ∧ Aside0 (wc.heap[g6]? = some (.cells #[.int .i64 W1, .slice Aw W2.length cw] 58 (0, 0))) ∧ Aside0 (wc.heap[g9]? = some (.cells #[.int .i64 G1, .slice Ag G2.length cg] 58 (0, 0))) ∧ Aside0 (wc.heap[g14]? = some (.cells #[.int .i64 G1, .slice Ah G2.length ch] 58 (0, 0))) ∧ Aside0 (Kd.R k62 62 wc w.heap.size (fun _ => True) (.slice Aw W2.length cw) W2) ∧ Aside0 (Kd.R k62 62 wc w.heap.size (fun _ => True) (.slice Ag G2.length cg) N2) ∧ Aside0 (Kd.R k62 62 wc w.heap.size (fun _ => True) (.slice Ah G2.length ch) G2))
        case first =>
          have hz0 : wj.cell? ⟨g2, 0, none⟩ = some (.int .i64 a0_0) := (blk_cell B2.out 0).trans rfl
          have hz1 : wj.cell? ⟨g2, 1, none⟩ = some (.slice A0_1 l0_1.length c0_1) := (blk_cell B2.out 1).trans rfl
          have hz2 : wj.cell? ⟨g3, 0, none⟩ = some (.int .i64 a1_0) := (blk_cell B3.out 0).trans rfl
          have hz3 : wj.cell? ⟨g3, 1, none⟩ = some (.int .i64 a1_1) := (blk_cell B3.out 1).trans rfl
          have hz4 : wj.cell? ⟨g3, 2, none⟩ = some (.int .i64 a1_2) := (blk_cell B3.out 2).trans rfl
          go_region_held3 (fun w' => w'.cell? ⟨g2, 0, none⟩ = some (.int .i64 a0_0) ∧ w'.cell? ⟨g2, 1, none⟩ = some (.slice A0_1 l0_1.length c0_1) ∧ w'.cell? ⟨g3, 0, none⟩ = some (.int .i64 a1_0) ∧ w'.cell? ⟨g3, 1, none⟩ = some (.int .i64 a1_1) ∧ w'.cell? ⟨g3, 2, none⟩ = some (.int .i64 a1_2)) (first | exact ⟨hz0, hz1, hz2, hz3, hz4⟩ | exact ⟨(blk_cell B2.out 0).trans rfl, (blk_cell B2.out 1).trans rfl, (blk_cell B3.out 0).trans rfl, (blk_cell B3.out 1).trans rfl, (blk_cell B3.out 2).trans rfl⟩ | exact ⟨(blk_cell (blk_alloc B2.out _) 0).trans rfl, (blk_cell (blk_alloc B2.out _) 1).trans rfl, (blk_cell (blk_alloc B3.out _) 0).trans rfl, (blk_cell (blk_alloc B3.out _) 1).trans rfl, (blk_cell (blk_alloc B3.out _) 2).trans rfl⟩ | exact ⟨(blk_cell (blk_far (blk_far B2.out B2_B14.out _) B2_B14.out _) 0).trans rfl, (blk_cell (blk_far (blk_far B2.out B2_B14.out _) B2_B14.out _) 1).trans rfl, (blk_cell (blk_far (blk_far B3.out B3_B14.out _) B3_B14.out _) 0).trans rfl, (blk_cell (blk_far (blk_far B3.out B3_B14.out _) B3_B14.out _) 1).trans rfl, (blk_cell (blk_far (blk_far B3.out B3_B14.out _) B3_B14.out _) 2).trans rfl⟩) (first | (go_at_call 43; refine (laws_toPuzzle.calls k a0_0 A0_1 c0_1 l0_1 P1 P2 _ ?s1 HC.out HP.out).mono ?_; (case s1 => repeat (first | exact Kd.C_below HR.out HB.out | refine Kd.C_drew ?_ | refine Kd.C_alloc ?_ _)); rintro e w_ ⟨v_, rfl, ho_, hb_⟩; (try replace hb_ := law_undrew hb_); (try (have B14 := Aside0.mk (blk_below (heap_alloc_new _ _) hb_); have B14g := Aside0.mk (show w.heap.size ≤ _ from HB.out.size); have B2_B14 := Aside0.mk (Nat.ne_of_lt (blk_lt B2.out)); have B3_B14 := Aside0.mk (Nat.ne_of_lt (blk_lt B3.out)); have B6_B14 := Aside0.mk (Nat.ne_of_lt (blk_lt B6.out)); have B9_B14 := Aside0.mk (Nat.ne_of_lt (blk_lt B9.out)); replace hb_ := law_unalloc hb_)); obtain ⟨Az, cz, ev_⟩ := Kd.R_slice ho_; subst ev_; have HRZ := Aside0.mk (show Kd.R k62 62 w_ w.heap.size (fun _ => True) (.slice Az P2.length cz) P2 from Kd.R_lower ho_ (by first | exact HB.out.size | exact (below_alloc HB.out _).size)); have n_ := Aside0.mk (below_step HB.out hb_); clear HB; have HB := n_; clear n_; have n_ := Aside0.mk (blk_below B2.out hb_); clear B2; have B2 := n_; clear n_; have n_ := Aside0.mk (blk_below B3.out hb_); clear B3; have B3 := n_; clear n_; have n_ := Aside0.mk (blk_below B6.out hb_); clear B6; have B6 := n_; clear n_; have n_ := Aside0.mk (blk_below B9.out hb_); clear B9; have B9 := n_; clear n_; have n_ := Aside0.mk (Kd.R_below HRW.out hb_); clear HRW; have HRW := n_; clear n_; have n_ := Aside0.mk (Kd.R_below HRG.out hb_); clear HRG; have HRG := n_; clear n_; (try (have n_ := Aside0.mk (blk_below B14.out hb_); clear B14; have B14 := n_; clear n_)); clear ho_ hb_) | (go_at_call 44; refine (laws_toClue.calls a1_0 a1_1 a1_2 a1_0 a1_1 a1_2 _ rfl).mono ?_; rintro e w_ ⟨rfl, hb_⟩; (try replace hb_ := law_undrew hb_); (try (have B14 := Aside0.mk (blk_below (heap_alloc_new _ _) hb_); have B14g := Aside0.mk (show w.heap.size ≤ _ from HB.out.size); have B2_B14 := Aside0.mk (Nat.ne_of_lt (blk_lt B2.out)); have B3_B14 := Aside0.mk (Nat.ne_of_lt (blk_lt B3.out)); have B6_B14 := Aside0.mk (Nat.ne_of_lt (blk_lt B6.out)); have B9_B14 := Aside0.mk (Nat.ne_of_lt (blk_lt B9.out)); replace hb_ := law_unalloc hb_)); have n_ := Aside0.mk (below_step HB.out hb_); clear HB; have HB := n_; clear n_; have n_ := Aside0.mk (blk_below B2.out hb_); clear B2; have B2 := n_; clear n_; have n_ := Aside0.mk (blk_below B3.out hb_); clear B3; have B3 := n_; clear n_; have n_ := Aside0.mk (blk_below B6.out hb_); clear B6; have B6 := n_; clear n_; have n_ := Aside0.mk (blk_below B9.out hb_); clear B9; have B9 := n_; clear n_; have n_ := Aside0.mk (Kd.R_below HRW.out hb_); clear HRW; have HRW := n_; clear n_; have n_ := Aside0.mk (Kd.R_below HRG.out hb_); clear HRG; have HRG := n_; clear n_; (try (have n_ := Aside0.mk (blk_below B14.out hb_); clear B14; have B14 := n_; clear n_)); skip; (try (have n_ := Aside0.mk (Kd.R_below HRZ.out hb_); clear HRZ; have HRZ := n_; clear n_)); clear hb_) | (go_at_call 45; refine (impl_AddClue.calls k P1 Az cz P2 a1_0 a1_1 a1_2 G1 G2 G3 _ ?s1 ?s2 HG.out).mono ?_; (case s1 => repeat (first | exact (Kd.R_reads' HRZ.out).2.2 | refine Kd.C_drew ?_ | refine Kd.C_alloc ?_ _)); (case s2 => exact (Kd.R_reads' HRZ.out).2.1); rintro e w_ ⟨v_, rfl, ho_, hb_⟩; (try replace hb_ := law_undrew hb_); (try (have B14 := Aside0.mk (blk_below (heap_alloc_new _ _) hb_); have B14g := Aside0.mk (show w.heap.size ≤ _ from HB.out.size); have B2_B14 := Aside0.mk (Nat.ne_of_lt (blk_lt B2.out)); have B3_B14 := Aside0.mk (Nat.ne_of_lt (blk_lt B3.out)); have B6_B14 := Aside0.mk (Nat.ne_of_lt (blk_lt B6.out)); have B9_B14 := Aside0.mk (Nat.ne_of_lt (blk_lt B9.out)); replace hb_ := law_unalloc hb_)); obtain ⟨Ah, ch, ev_⟩ := Kd.R_slice ho_; subst ev_; have HRH := Aside0.mk (show Kd.R k62 62 w_ w.heap.size (fun _ => True) (.slice Ah G2.length ch) G2 from Kd.R_lower ho_ (by first | exact HB.out.size | exact (below_alloc HB.out _).size)); have n_ := Aside0.mk (below_step HB.out hb_); clear HB; have HB := n_; clear n_; have n_ := Aside0.mk (blk_below B2.out hb_); clear B2; have B2 := n_; clear n_; have n_ := Aside0.mk (blk_below B3.out hb_); clear B3; have B3 := n_; clear n_; have n_ := Aside0.mk (blk_below B6.out hb_); clear B6; have B6 := n_; clear n_; have n_ := Aside0.mk (blk_below B9.out hb_); clear B9; have B9 := n_; clear n_; have n_ := Aside0.mk (Kd.R_below HRW.out hb_); clear HRW; have HRW := n_; clear n_; have n_ := Aside0.mk (Kd.R_below HRG.out hb_); clear HRG; have HRG := n_; clear n_; (try (have n_ := Aside0.mk (blk_below B14.out hb_); clear B14; have B14 := n_; clear n_)); skip; (try (have hy0 := (blk_cell B14.out 0).trans rfl; have hy1 := (blk_cell B14.out 1).trans rfl; have hyf0 := blk_frozen B14.out 0; have hyf1 := blk_frozen B14.out 1)); clear ho_ hb_))
          all_goals
            go_wp2_with fail
            go_meet
            case rel => first | exact ⟨_, Ah, ch, rfl, rfl, ⟨HB.out.size⟩, ⟨below_alloc HB.out _⟩, ⟨blk_alloc B6.out _⟩, ⟨blk_alloc B9.out _⟩, ⟨heap_alloc_new _ _⟩, ⟨Kd.R_alloc HRW.out _⟩, ⟨Kd.R_alloc HRG.out _⟩, ⟨Kd.R_alloc HRH.out _⟩⟩ | exact ⟨_, Ah, ch, rfl, rfl, ⟨B14g.out⟩, ⟨below_set (below_set HB.out B14g.out) B14g.out⟩, ⟨blk_far (blk_far B6.out B6_B14.out _) B6_B14.out _⟩, ⟨blk_far (blk_far B9.out B9_B14.out _) B9_B14.out _⟩, ⟨blk_put (blk_put B14.out 0 _ rfl) 1 _ rfl⟩, ⟨Kd.R_set (Kd.R_set HRW.out B14.out (by decide) 0 _) (blk_put B14.out 0 _ rfl) (by decide) 1 _⟩, ⟨Kd.R_set (Kd.R_set HRG.out B14.out (by decide) 0 _) (blk_put B14.out 0 _ rfl) (by decide) 1 _⟩, ⟨Kd.R_set (Kd.R_set HRH.out B14.out (by decide) 0 _) (blk_put B14.out 0 _ rfl) (by decide) 1 _⟩⟩
        case rest =>
          obtain ⟨g14, Ah, ch, rfl, rfl, B14g, HB, B6, B9, B14, HRW, HRG, HRH⟩ := hcut
          have hz0 : wc.cell? ⟨g14, 0, none⟩ = some (.int .i64 G1) := (blk_cell B14.out 0).trans rfl
          have hz1 : wc.cell? ⟨g14, 1, none⟩ = some (.slice Ah G2.length ch) := (blk_cell B14.out 1).trans rfl
          have hz2 : wc.cell? ⟨g6, 0, none⟩ = some (.int .i64 W1) := (blk_cell B6.out 0).trans rfl
          have hz3 : wc.cell? ⟨g6, 1, none⟩ = some (.slice Aw W2.length cw) := (blk_cell B6.out 1).trans rfl
          go_wp2_with fail
          refine (laws_eqPuzzle.calls k G1 Ah ch G2 W1 Aw cw W2 true _ (Kd.R_reads' HRH.out).2.2 (Kd.R_reads' HRH.out).2.1 (Kd.R_reads' HRW.out).2.2 (Kd.R_reads' HRW.out).2.1 He1.out).mono ?_
          rintro e wl ⟨rfl, hb_⟩
          have n_ := Aside0.mk (below_step HB.out hb_); clear HB; have HB := n_; clear n_; have n_ := Aside0.mk (blk_below B6.out hb_); clear B6; have B6 := n_; clear n_; have n_ := Aside0.mk (blk_below B9.out hb_); clear B9; have B9 := n_; clear n_; have n_ := Aside0.mk (blk_below B14.out hb_); clear B14; have B14 := n_; clear n_; have n_ := Aside0.mk (Kd.R_below HRW.out hb_); clear HRW; have HRW := n_; clear n_; have n_ := Aside0.mk (Kd.R_below HRG.out hb_); clear HRG; have HRG := n_; clear n_; have n_ := Aside0.mk (Kd.R_below HRH.out hb_); clear HRH; have HRH := n_; clear n_
          clear hb_ hz0 hz1 hz2 hz3
          have hz0 : wl.cell? ⟨g9, 0, none⟩ = some (.int .i64 G1) := (blk_cell B9.out 0).trans rfl
          have hz1 : wl.cell? ⟨g9, 1, none⟩ = some (.slice Ag G2.length cg) := (blk_cell B9.out 1).trans rfl
          go_wp2_with fail
          have hc_ := laws_heldPuzzle.calls k G1 Ag cg N2 1 q wl (Kd.R_reads' HRG.out).2.2 (by rw [← HL.out]; exact (Kd.R_reads' HRG.out).2.1) Hq.out
          rw [← HL.out] at hc_
          refine hc_.mono ?_
          clear hc_
          rintro e wm ⟨rfl, hb_⟩
          have n_ := Aside0.mk (below_step HB.out hb_); clear HB; have HB := n_; clear n_; have n_ := Aside0.mk (blk_below B6.out hb_); clear B6; have B6 := n_; clear n_; have n_ := Aside0.mk (blk_below B9.out hb_); clear B9; have B9 := n_; clear n_; have n_ := Aside0.mk (blk_below B14.out hb_); clear B14; have B14 := n_; clear n_; have n_ := Aside0.mk (Kd.R_below HRW.out hb_); clear HRW; have HRW := n_; clear n_; have n_ := Aside0.mk (Kd.R_below HRG.out hb_); clear HRG; have HRG := n_; clear n_; have n_ := Aside0.mk (Kd.R_below HRH.out hb_); clear HRH; have HRH := n_; clear n_
          clear hb_ hz0 hz1
          go_wp2
          ((try simp only [Exit.inBlock, Exit.then]); refine bodyPost_ret (results_tmp rfl _ _ _) rfl ?_)
          exact ⟨rfl, HB.out⟩

end Go.Proofs.Ytlkommjeflojjaa.A
