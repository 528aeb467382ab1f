/- The walks of the Go functions that these laws reach: each is proved to do what a plain Lean function says. -/
import Derived.Test.YtennnaibnlmjlaaM0
import Derived.Test.YtennnaibnlmjlaaM5
import Derived.Test.YtennnaibnlmjlaaM6
import Derived.Test.YtennnaibnlmjlaaM8
namespace Go.Proofs.Ytennnaibnlmjlaa.M
open Go.RowKit Go.Proofs.YtennnaibnlmjlaaW.PrintWords Go.Proofs.YtennnaibnlmjlaaW.PrintLast Go.Proofs.YtennnaibnlmjlaaW.PrintMore
attribute [local go_sem] max2_int min2_int max_two min_two max_three min_three max_four min_four   -- for this text's walks alone
set_option linter.unusedVariables false
set_option linter.unusedSimpArgs false

/-! ### impl_MakePuzzle: function 16 -/
/-! ### impl.MakePuzzle and its literal -/
def impl_MakePuzzle.nx (z : Int) : Int := Int.tmod (wrap64 (wrap64 (z * 299) + 811)) 10007
def impl_MakePuzzle.who (kd z : Int) (l : List Int) : Int := if Int.tmod kd 2 = 1 then Int.tmod z (l.length : Int) else 0
def impl_MakePuzzle.go (k : Nat) (l : List Int) : Nat → Int → List S55 → Option (List S55)
  | 0, _, acc => some acc
  | n + 1, z, acc => (impl_tells.f k (Int.tmod (impl_MakePuzzle.nx z) 6) (impl_MakePuzzle.who (Int.tmod (impl_MakePuzzle.nx z) 6) (impl_MakePuzzle.nx (impl_MakePuzzle.nx z)) l) l).bind fun b => impl_MakePuzzle.go k l n (impl_MakePuzzle.nx (impl_MakePuzzle.nx z)) (acc ++ [⟨Int.tmod (impl_MakePuzzle.nx z) 6, impl_MakePuzzle.who (Int.tmod (impl_MakePuzzle.nx z) 6) (impl_MakePuzzle.nx (impl_MakePuzzle.nx z)) l, b⟩])
def impl_MakePuzzle.f (k : Nat) (l0 : List Int) (a1 : Int) (a2 : Int) : Option (Int × (List S55) × Bool) := (impl_areHidden.f l0).bind fun h => if h = true then (if 0 ≤ a1 ∧ a1 ≤ 6 then (if 0 ≤ a2 ∧ a2 ≤ 9999 then (if 0 < l0.length then ((impl_MakePuzzle.go k l0 a1.toNat a2 []).bind fun c => some ((l0.length : Int), c, true)) else none) else some (0, [], false)) else some (0, [], false)) else some (0, [], false)
theorem impl_MakePuzzle.go_mono (k : Nat) (l : List Int) : ∀ n z acc, LeO (impl_MakePuzzle.go k l n z acc) (impl_MakePuzzle.go (k + 1) l n z acc)
  | 0, _, _ => LeO.refl _
  | n + 1, z, acc => by
    unfold impl_MakePuzzle.go
    exact LeO.bind (impl_tells.mono _ _ _ _) (fun _ => impl_MakePuzzle.go_mono k l n _ _)
theorem impl_MakePuzzle.mono : ∀ a0 a1 a2 k, LeO (impl_MakePuzzle.f k a0 a1 a2) (impl_MakePuzzle.f (k + 1) a0 a1 a2) := by
  intro a0 a1 a2 k
  unfold impl_MakePuzzle.f
  exact LeO.bind (LeO.refl _) (fun _ => LeO.ite (LeO.ite (LeO.ite (LeO.ite (LeO.bind (impl_MakePuzzle.go_mono k a0 _ _ _) (fun _ => LeO.refl _)) (LeO.refl _)) (LeO.refl _)) (LeO.refl _)) (LeO.refl _))
theorem impl_MakePuzzle.btw (x a1 a2 : Int) : impl_between.f x a1 a2 = some (decide (a1 ≤ x) && decide (x ≤ a2)) := by
  unfold impl_between.f
  by_cases h : x ≥ a1
  · rw [if_pos h, decide_eq_true (show a1 ≤ x from h), Bool.true_and]
  · rw [if_neg h, decide_eq_false (show ¬ a1 ≤ x from h), Bool.false_and]
set_option maxHeartbeats 1000000 in
theorem impl_MakePuzzle.next (W : World) (g : Nat) (z : Int) (hz : W.heap[g]? = some (.cells #[.int .i64 z] 3 (0, 0))) : Calls Try.prog 44 #[.pointer (some ⟨g, 0, none⟩)] W fun e w' => e = .returned (.int .i64 (impl_MakePuzzle.nx z)) ∧ w' = W.setCell ⟨g, 0, none⟩ (.int .i64 (impl_MakePuzzle.nx z)) := by
  have hc : W.cell? ⟨g, 0, none⟩ = some (.int .i64 z) := (blk_cell hz 0).trans rfl
  have hf := blk_frozen hz 0
  clear hz
  go_enter Try.func44, Try.ntmps44
  go_wp2
  go_ret
  exact ⟨rfl, rfl⟩
set_option maxHeartbeats 8000000 in
set_option maxRecDepth 100000 in
theorem impl_MakePuzzle.calls (k : Nat) (A0 : Option Addr) (c0 : Nat) (l0 : List Int) (a1 : Int) (a2 : Int) (r1 : Int) (r2 : List (S55)) (r3 : Bool) (w : World) (hr0 : Kd.C (Kd.int .i64) w A0 l0.length l0) (hc0 : l0.length ≤ c0) (h : impl_MakePuzzle.f k l0 a1 a2 = some (r1, r2, r3)) :
    Calls Try.prog 16 #[.slice A0 l0.length c0, .int .i64 a1, .int .i64 a2] w fun e w' => ∃ v1_ : Value, e = .returned (.tuple #[.agg #[.int .i64 r1, v1_], .bool r3]) ∧ Kd.R k55 55 w' w.heap.size (fun _ => True) v1_ r2 ∧ Below w.heap.size w w' := by
  have huP := Try.underlying30
  have huC := Try.underlying55
  unfold impl_MakePuzzle.f at h
  obtain ⟨b0, h0, h⟩ := Option.bind_eq_some_iff.mp h
  have HR := Aside0.mk hr0
  have HC := Aside0.mk hc0
  have H0 := Aside0.mk h0
  clear hr0 hc0 h0
  cases b0 with
  | false =>
    rw [if_neg (by decide)] at h
    simp only [Option.some.injEq, Prod.mk.injEq] at h
    obtain ⟨rfl, rfl, rfl⟩ := h
    go_enter Try.func16, Try.ntmps16
    go_wp2_with (first | ((with_reducible refine gate_dst (N := 6) rfl ?_); refine box_event ?hg (N := 6) ?hd (cs := #[.int .i64 0, .slice none 0 0]) (t := 30) ?hr ?_; (case hd => rfl); (case hg => rfl); (case hr => first | (go_simp; done) | (go_simp; rfl)); intro gr hg_ w6 hbox_ hb_; have BR := Aside0.mk hbox_; have HB := Aside0.mk hb_; have GR := Aside0.mk (show w.heap.size ≤ gr by rw [hg_]; exact Nat.le_refl _); clear hg_ hbox_ hb_) | (go_at_call 42; with_reducible refine (impl_areHidden.calls A0 c0 l0 _ _ (Kd.C_below HR.out HB.out) HC.out H0.out).mono ?_; rintro e w7 ⟨rfl, hb⟩; have n_ := Aside0.mk (blk_below BR.out hb); clear BR; have BR := n_; clear n_; have n_ := Aside0.mk (below_step HB.out hb); clear HB; have HB := n_; clear n_; clear hb; have hcr0 : w7.cell? ⟨gr, 0, none⟩ = some (.int .i64 0) := (blk_cell BR.out 0).trans rfl; have hcr1 : w7.cell? ⟨gr, 1, none⟩ = some (.slice none 0 0) := (blk_cell BR.out 1).trans rfl; have hfr0 := blk_frozen BR.out 0; have hfr1 := blk_frozen BR.out 1))
    (try simp only [Exit.inBlock, Exit.then])
    refine bodyPost_ret (results_ct rfl _ _ gr 30 #[.int .i64 0, .slice none 0 0] (0, 0) _ rfl (by refine blk_put (cs := #[.int .i64 0, .slice none 0 0]) ?_ 1 _ rfl; refine blk_put (cs := #[.int .i64 0, .slice none 0 0]) ?_ 0 _ rfl; exact (by repeat (first | (with_reducible exact BR.out) | refine blk_drewN ?_ _ | refine blk_drew ?_))) Try.underlying30 rfl (by kernel_rfl)) rfl ?_
    exact ⟨_, rfl, Kd.R_nil _ _ _ _ _, below_set (below_set (by repeat (first | (with_reducible exact HB.out) | apply pw_below_drewN | apply below_drew1)) GR.out) GR.out⟩
  | true =>
    rw [if_pos rfl] at h
    by_cases q1 : 0 ≤ a1 ∧ a1 ≤ 6
    · rw [if_pos q1] at h
      have H1 := Aside0.mk (show impl_between.f a1 0 6 = some true by rw [impl_MakePuzzle.btw, decide_eq_true q1.1, decide_eq_true q1.2]; rfl)
      by_cases q2 : 0 ≤ a2 ∧ a2 ≤ 9999
      · rw [if_pos q2] at h
        have H2 := Aside0.mk (show impl_between.f a2 0 9999 = some true by rw [impl_MakePuzzle.btw, decide_eq_true q2.1, decide_eq_true q2.2]; rfl)
        by_cases q3 : 0 < l0.length
        · rw [if_pos q3] at h
          obtain ⟨c, hgo, h⟩ := Option.bind_eq_some_iff.mp h
          simp only [Option.some.injEq, Prod.mk.injEq] at h
          obtain ⟨rfl, rfl, rfl⟩ := h
          obtain ⟨n, rfl⟩ : ∃ n : Nat, a1 = (n : Int) := ⟨a1.toNat, by omega⟩
          rw [Int.toNat_natCast] at hgo
          have hn6 : n ≤ 6 := by omega
          have HN6 := Aside0.mk hn6
          have HG := Aside0.mk hgo
          have hl0 : ¬ ((l0.length : Int) = 0) := by omega
          have hl1 : ((l0.length : Int) == 0) = false := beq_eq_false_iff_ne.mpr hl0
          have HL0 := Aside0.mk hl0
          clear q1 q2 q3 hgo hn6
          go_enter Try.func16, Try.ntmps16
          go_wp2_with (first | ((with_reducible refine gate_dst (N := 6) rfl ?_); refine box_event ?hg (N := 6) ?hd (cs := #[.int .i64 0, .slice none 0 0]) (t := 30) ?hr ?_; (case hd => rfl); (case hg => rfl); (case hr => first | (go_simp; done) | (go_simp; rfl)); intro gr hg_ w6 hbox_ hb_; have BR := Aside0.mk hbox_; have HB := Aside0.mk hb_; have GR := Aside0.mk (show w.heap.size ≤ gr by rw [hg_]; exact Nat.le_refl _); clear hg_ hbox_ hb_) | (go_at_call 42; with_reducible refine (impl_areHidden.calls A0 c0 l0 _ _ (Kd.C_below HR.out HB.out) HC.out H0.out).mono ?_; rintro e w7 ⟨rfl, hb⟩; have n_ := Aside0.mk (blk_below BR.out hb); clear BR; have BR := n_; clear n_; have n_ := Aside0.mk (below_step HB.out hb); clear HB; have HB := n_; clear n_; clear hb; have hcr0 : w7.cell? ⟨gr, 0, none⟩ = some (.int .i64 0) := (blk_cell BR.out 0).trans rfl; have hcr1 : w7.cell? ⟨gr, 1, none⟩ = some (.slice none 0 0) := (blk_cell BR.out 1).trans rfl; have hfr0 := blk_frozen BR.out 0; have hfr1 := blk_frozen BR.out 1) | (go_at_call 43; with_reducible refine (impl_between.calls (n : Int) 0 6 _ _ H1.out).mono ?_; rintro e w' ⟨rfl, ⟨nd, rfl⟩⟩) | (go_at_call 43; with_reducible refine (impl_between.calls a2 0 9999 _ _ H2.out).mono ?_; rintro e w' ⟨rfl, ⟨nd, rfl⟩⟩) | ((with_reducible refine gate_dst (N := 8) rfl ?_); refine box_event ?hg (N := 8) ?hd (cs := #[.int .i64 0, .slice none 0 0]) (t := 30) ?hr ?_; (case hd => rfl); (case hg => rfl); (case hr => first | (go_simp; done) | (go_simp; rfl)); intro gp hg_ w8 hbox_ hb_; have BP := Aside0.mk hbox_; have GP := Aside0.mk (show w.heap.size ≤ gp by rw [hg_]; exact below_size (by repeat (first | (with_reducible exact HB.out) | apply pw_below_drewN | apply below_drew1))); have NPR := Aside0.mk (show gr ≠ gp by rw [hg_]; exact Nat.ne_of_lt (blk_lt (g := gr) (o := .cells #[.int .i64 0, .slice none 0 0] 30 (0, 0)) (by repeat (first | (with_reducible exact BR.out) | refine blk_drewN ?_ _ | refine blk_drew ?_)))); have n_ := Aside0.mk (blk_below (g := gr) (o := .cells #[.int .i64 0, .slice none 0 0] 30 (0, 0)) (by repeat (first | (with_reducible exact BR.out) | refine blk_drewN ?_ _ | refine blk_drew ?_)) hb_); clear BR; have BR := n_; clear n_; have n_ := Aside0.mk (below_step (by repeat (first | (with_reducible exact HB.out) | apply pw_below_drewN | apply below_drew1)) hb_); clear HB; have HB := n_; clear n_; clear hcr0 hcr1 hfr0 hfr1; clear hg_ hbox_ hb_) | ((with_reducible refine gate_dst (N := 9) rfl ?_); refine box_event ?hg (N := 9) ?hd (cs := #[.int .i64 0]) (t := 3) ?hr ?_; (case hd => rfl); (case hg => rfl); (case hr => first | (go_simp; done) | (go_simp; rfl)); intro gz hg_ w9 hbox_ hb_; have BZ := Aside0.mk hbox_; have GZ := Aside0.mk (show w.heap.size ≤ gz by rw [hg_]; exact below_size HB.out); have NZR := Aside0.mk (show gr ≠ gz by rw [hg_]; exact Nat.ne_of_lt (blk_lt BR.out)); have NZP := Aside0.mk (show gp ≠ gz by rw [hg_]; exact Nat.ne_of_lt (blk_lt BP.out)); have n_ := Aside0.mk (blk_below BP.out hb_); clear BP; have BP := n_; clear n_; have n_ := Aside0.mk (blk_below BR.out hb_); clear BR; have BR := n_; clear n_; have n_ := Aside0.mk (below_step HB.out hb_); clear HB; have HB := n_; clear n_; have hcp0 : w9.cell? ⟨gp, 0, none⟩ = some (.int .i64 0) := (blk_cell BP.out 0).trans rfl; have hcp1 : w9.cell? ⟨gp, 1, none⟩ = some (.slice none 0 0) := (blk_cell BP.out 1).trans rfl; have hfp0 := blk_frozen BP.out 0; have hfp1 := blk_frozen BP.out 1; have hcz0 : w9.cell? ⟨gz, 0, none⟩ = some (.int .i64 0) := (blk_cell BZ.out 0).trans rfl; have hfz0 := blk_frozen BZ.out 0; have hne1 := NZP.out; have hne2 := NZP.out.symm; clear hg_ hbox_ hb_))
          go_loopg [33] n (fun gg s33 wr => ∃ (j : Nat) (z : Int) (acc : List S55) (v : Value), j ≤ gg ∧ j ≤ n ∧ s33 = .int .i64 ((n : Int) - (j : Int)) ∧ Aside0 (impl_MakePuzzle.go k l0 j z acc = some c) ∧ Aside0 (acc.length + j = n) ∧ Aside0 (wr.heap[gz]? = some (.cells #[.int .i64 z] 3 (0, 0))) ∧ Aside0 (wr.heap[gp]? = some (.cells #[.int .i64 (l0.length : Int), v] 30 (0, 0))) ∧ Aside0 (wr.heap[gr]? = some (.cells #[.int .i64 0, .slice none 0 0] 30 (0, 0))) ∧ Aside0 (Kd.R k55 55 wr w.heap.size (fun _ => True) v acc) ∧ Aside0 (Below w.heap.size w wr))
          case atStart => exact ⟨n, a2, [], .slice none 0 0, Nat.le_refl _, Nat.le_refl _, by simp, ⟨HG.out⟩, ⟨by simp⟩, ⟨blk_put (blk_far (blk_far BZ.out NZP.out.symm _) NZP.out.symm _) 0 _ rfl⟩, ⟨blk_far (blk_put (blk_put BP.out 0 _ rfl) 1 _ rfl) NZP.out _⟩, ⟨blk_far (blk_far (blk_far BR.out NPR.out _) NPR.out _) NZR.out _⟩, ⟨Kd.R_nil _ _ _ _ _⟩, ⟨below_set (below_set (below_set HB.out GP.out) GP.out) GZ.out⟩⟩
          case round =>
            clear BZ BP BR HB hcp0 hcp1 hfp0 hfp1 hcz0 hfz0 hne1 hne2
            obtain ⟨j, z, acc, v, hjg, hjn, rfl, HA, HLj, BZ, BP, BR, HO, HB⟩ := hrel
            obtain ⟨Av, cv, ev⟩ := Kd.R_slice HO.out
            subst ev
            cases j with
            | zero =>
              have e0 : acc = c := by have := HA.out; unfold impl_MakePuzzle.go at this; exact Option.some.inj this
              subst e0
              have hcp0 : wr.cell? ⟨gp, 0, none⟩ = some (.int .i64 (l0.length : Int)) := (blk_cell BP.out 0).trans rfl
              have hcp1 : wr.cell? ⟨gp, 1, none⟩ = some (.slice Av acc.length cv) := (blk_cell BP.out 1).trans rfl
              have hcr0 : wr.cell? ⟨gr, 0, none⟩ = some (.int .i64 0) := (blk_cell BR.out 0).trans rfl
              have hcr1 : wr.cell? ⟨gr, 1, none⟩ = some (.slice none 0 0) := (blk_cell BR.out 1).trans rfl
              have hfr0 := blk_frozen BR.out 0
              have hfr1 := blk_frozen BR.out 1
              go_wp2_with fail
              (try simp only [Exit.inBlock, Exit.then])
              refine bodyPost_ret (results_ct rfl _ _ gr 30 #[.int .i64 (l0.length : Int), .slice Av acc.length cv] (0, 0) _ rfl (by refine blk_put (cs := #[.int .i64 (l0.length : Int), .slice none 0 0]) ?_ 1 _ rfl; refine blk_put (cs := #[.int .i64 0, .slice none 0 0]) ?_ 0 _ rfl; exact BR.out) Try.underlying30 rfl (by kernel_rfl)) rfl ?_
              exact ⟨_, rfl, Kd.R_set (Kd.R_set HO.out BR.out (by decide) 0 _) (blk_put BR.out 0 _ rfl) (by decide) 1 _, below_set (below_set HB.out GR.out) GR.out⟩
            | succ j =>
              obtain ⟨b, hb0, hA⟩ := Option.bind_eq_some_iff.mp (show (impl_tells.f k (Int.tmod (impl_MakePuzzle.nx z) 6) (impl_MakePuzzle.who (Int.tmod (impl_MakePuzzle.nx z) 6) (impl_MakePuzzle.nx (impl_MakePuzzle.nx z)) l0) l0).bind _ = some c from HA.out)
              clear HA
              have HA := Aside0.mk hA
              have HT := Aside0.mk hb0
              clear hA hb0
              have hlt : (n : Int) - ((j + 1 : Nat) : Int) < (n : Int) := by omega
              have hltz : (n : Int) - ((j : Int) + 1) < (n : Int) := by omega
              by_cases hod : Int.tmod (Int.tmod (impl_MakePuzzle.nx z) 6) 2 = 1
              · skip
                have hwho : impl_MakePuzzle.who (Int.tmod (impl_MakePuzzle.nx z) 6) (impl_MakePuzzle.nx (impl_MakePuzzle.nx z)) l0 = (Int.tmod (impl_MakePuzzle.nx (impl_MakePuzzle.nx z)) (l0.length : Int)) := by unfold impl_MakePuzzle.who; exact if_pos hod
                have hA2 := HA.out
                rw [hwho] at hA2
                have hT2 := HT.out
                rw [hwho] at hT2
                clear HA HT hwho
                have HA := Aside0.mk hA2
                have HT := Aside0.mk hT2
                clear hA2 hT2
                have e2 : Int.tmod (Int.tmod (impl_MakePuzzle.nx z) 6) 2 = Int.tmod (impl_MakePuzzle.nx z) 2 := by first | exact Int.tmod_tmod_of_dvd _ (by decide) | simp
                have hod5 := hod
                rw [e2] at hod5
                have hod6 : (Int.tmod (impl_MakePuzzle.nx z) 2 == 1) = true := beq_iff_eq.mpr hod5
                clear e2
                have hob : (Int.tmod (Int.tmod (impl_MakePuzzle.nx z) 6) 2 == 1) = true := beq_iff_eq.mpr hod
                go_wp2_with (first | ((first | go_at_call 44 | go_at_fn 44); with_reducible refine (impl_MakePuzzle.next wr gz z BZ.out).mono ?_; rintro e w1 ⟨rfl, hw1⟩; have n_ := Aside0.mk (show Below w.heap.size w w1 by rw [hw1]; exact below_set HB.out GZ.out); clear HB; have HB := n_; clear n_; have n_ := Aside0.mk (show Kd.R k55 55 w1 w.heap.size (fun _ => True) (.slice Av acc.length cv) acc by rw [hw1]; exact Kd.R_set HO.out BZ.out (by decide) 0 _); clear HO; have HO := n_; clear n_; have n_ := Aside0.mk (show w1.heap[gp]? = some (.cells #[.int .i64 (l0.length : Int), .slice Av acc.length cv] 30 (0, 0)) by rw [hw1]; exact blk_far BP.out NZP.out _); clear BP; have BP := n_; clear n_; have n_ := Aside0.mk (show w1.heap[gr]? = some (.cells #[.int .i64 0, .slice none 0 0] 30 (0, 0)) by rw [hw1]; exact blk_far BR.out NZR.out _); clear BR; have BR := n_; clear n_; have n_ := Aside0.mk (show w1.heap[gz]? = some (.cells #[.int .i64 (impl_MakePuzzle.nx z)] 3 (0, 0)) by rw [hw1]; exact blk_put BZ.out 0 _ rfl); clear BZ; have BZ := n_; clear n_; clear hw1) | ((with_reducible refine gate_dst (N := 11) rfl ?_); refine box_event ?hg (N := 11) ?hd (cs := #[.int .i64 0, .int .i64 0, .int .i64 0]) (t := 55) ?hr ?_; (case hd => rfl); (case hg => rfl); (case hr => first | (go_simp; done) | (go_simp; rfl)); intro gc hg_ w2 hbox_ hb_; have BC := Aside0.mk hbox_; have GC := Aside0.mk (show w.heap.size ≤ gc by rw [hg_]; exact below_size HB.out); have NCR := Aside0.mk (show gr ≠ gc by rw [hg_]; exact Nat.ne_of_lt (blk_lt BR.out)); have NCP := Aside0.mk (show gp ≠ gc by rw [hg_]; exact Nat.ne_of_lt (blk_lt BP.out)); have NCZ := Aside0.mk (show gz ≠ gc by rw [hg_]; exact Nat.ne_of_lt (blk_lt BZ.out)); have n_ := Aside0.mk (show Kd.R k55 55 w2 w.heap.size (fun k_ => True ∧ k_ ≠ gc) (.slice Av acc.length cv) acc from Kd.R_below (Kd.R_elderB HO.out gc (by rw [hg_]; exact Nat.le_refl _)) hb_); clear HO; have HO := n_; clear n_; have n_ := Aside0.mk (below_step HB.out hb_); clear HB; have HB := n_; clear n_; have n_ := Aside0.mk (blk_below BP.out hb_); clear BP; have BP := n_; clear n_; have n_ := Aside0.mk (blk_below BR.out hb_); clear BR; have BR := n_; clear n_; have n_ := Aside0.mk (blk_below BZ.out hb_); clear BZ; have BZ := n_; clear n_; have hcc0 : w2.cell? ⟨gc, 0, none⟩ = some (.int .i64 0) := (blk_cell BC.out 0).trans rfl; have hfc0 := blk_frozen BC.out 0; have hcc1 : w2.cell? ⟨gc, 1, none⟩ = some (.int .i64 0) := (blk_cell BC.out 1).trans rfl; have hfc1 := blk_frozen BC.out 1; have hcc2 : w2.cell? ⟨gc, 2, none⟩ = some (.int .i64 0) := (blk_cell BC.out 2).trans rfl; have hfc2 := blk_frozen BC.out 2; clear hg_ hbox_ hb_) | ((first | go_at_call 44 | go_at_fn 44); with_reducible refine (impl_MakePuzzle.next _ gz (impl_MakePuzzle.nx z) (blk_far (blk_far (blk_far BZ.out NCZ.out _) NCZ.out _) NCZ.out _)).mono ?_; rintro e w3 ⟨rfl, hw3⟩; clear hcc0 hcc1 hcc2 hfc0 hfc1 hfc2; have n_ := Aside0.mk (show Below w.heap.size w w3 by rw [hw3]; exact below_set (below_set (below_set (below_set HB.out GC.out) GC.out) GC.out) GZ.out); clear HB; have HB := n_; clear n_; have n_ := Aside0.mk (show Kd.R k55 55 w3 w.heap.size (fun k_ => True ∧ k_ ≠ gc) (.slice Av acc.length cv) acc by rw [hw3]; exact Kd.R_set (Kd.R_far (p := ⟨gc, 2, none⟩) (Kd.R_far (p := ⟨gc, 1, none⟩) (Kd.R_far (p := ⟨gc, 0, none⟩) HO.out (fun _ hk => hk.2) _) (fun _ hk => hk.2) _) (fun _ hk => hk.2) _) (blk_far (blk_far (blk_far BZ.out NCZ.out _) NCZ.out _) NCZ.out _) (by decide) 0 _); clear HO; have HO := n_; clear n_; have n_ := Aside0.mk (show w3.heap[gp]? = some (.cells #[.int .i64 (l0.length : Int), .slice Av acc.length cv] 30 (0, 0)) by rw [hw3]; exact blk_far (blk_far (blk_far (blk_far BP.out NCP.out _) NCP.out _) NCP.out _) NZP.out _); clear BP; have BP := n_; clear n_; have n_ := Aside0.mk (show w3.heap[gr]? = some (.cells #[.int .i64 0, .slice none 0 0] 30 (0, 0)) by rw [hw3]; exact blk_far (blk_far (blk_far (blk_far BR.out NCR.out _) NCR.out _) NCR.out _) NZR.out _); clear BR; have BR := n_; clear n_; have n_ := Aside0.mk (show w3.heap[gc]? = some (.cells #[.int .i64 (Int.tmod (impl_MakePuzzle.nx z) 6), .int .i64 0, .int .i64 0] 55 (0, 0)) by rw [hw3]; refine blk_far ?_ NCZ.out.symm _; refine blk_put (cs := #[.int .i64 (Int.tmod (impl_MakePuzzle.nx z) 6), .int .i64 0, .int .i64 0]) ?_ 2 _ rfl; refine blk_put (cs := #[.int .i64 (Int.tmod (impl_MakePuzzle.nx z) 6), .int .i64 0, .int .i64 0]) ?_ 1 _ rfl; refine blk_put (cs := #[.int .i64 0, .int .i64 0, .int .i64 0]) ?_ 0 _ rfl; exact BC.out); clear BC; have BC := n_; clear n_; have n_ := Aside0.mk (show w3.heap[gz]? = some (.cells #[.int .i64 (impl_MakePuzzle.nx (impl_MakePuzzle.nx z))] 3 (0, 0)) by rw [hw3]; exact blk_put (blk_far (blk_far (blk_far BZ.out NCZ.out _) NCZ.out _) NCZ.out _) 0 _ rfl); clear BZ; have BZ := n_; clear n_; clear hw3; have hcd0 : w3.cell? ⟨gc, 0, none⟩ = some (.int .i64 (Int.tmod (impl_MakePuzzle.nx z) 6)) := (blk_cell BC.out 0).trans rfl; have hcd1 : w3.cell? ⟨gc, 1, none⟩ = some (.int .i64 0) := (blk_cell BC.out 1).trans rfl; have hfd1 := blk_frozen BC.out 1) | (go_at_call 45; with_reducible refine (impl_tells.calls k (Int.tmod (impl_MakePuzzle.nx z) 6) (Int.tmod (impl_MakePuzzle.nx (impl_MakePuzzle.nx z)) (l0.length : Int)) A0 c0 l0 b _ (Kd.C_below HR.out (below_set HB.out GC.out)) HC.out HT.out).mono ?_; rintro e w5 ⟨rfl, hb⟩; clear hcd0 hcd1 hfd1; have n_ := Aside0.mk (show Kd.R k55 55 w5 w.heap.size (fun k_ => True ∧ k_ ≠ gc) (.slice Av acc.length cv) acc from Kd.R_below (Kd.R_far (p := ⟨gc, 1, none⟩) HO.out (fun _ hk => hk.2) _) hb); clear HO; have HO := n_; clear n_; have n_ := Aside0.mk (show Below w.heap.size w w5 from below_step (below_set HB.out GC.out) hb); clear HB; have HB := n_; clear n_; have n_ := Aside0.mk (blk_below (blk_far BP.out NCP.out _) hb); clear BP; have BP := n_; clear n_; have n_ := Aside0.mk (blk_below (blk_far BR.out NCR.out _) hb); clear BR; have BR := n_; clear n_; have n_ := Aside0.mk (blk_below (blk_far BZ.out NCZ.out _) hb); clear BZ; have BZ := n_; clear n_; have n_ := Aside0.mk (show w5.heap[gc]? = some (.cells #[.int .i64 (Int.tmod (impl_MakePuzzle.nx z) 6), .int .i64 (Int.tmod (impl_MakePuzzle.nx (impl_MakePuzzle.nx z)) (l0.length : Int)), .int .i64 0] 55 (0, 0)) from blk_below (blk_put BC.out 1 _ rfl) hb); clear BC; have BC := n_; clear n_; clear hb; have hce0 : w5.cell? ⟨gc, 0, none⟩ = some (.int .i64 (Int.tmod (impl_MakePuzzle.nx z) 6)) := (blk_cell BC.out 0).trans rfl; have hce1 : w5.cell? ⟨gc, 1, none⟩ = some (.int .i64 (Int.tmod (impl_MakePuzzle.nx (impl_MakePuzzle.nx z)) (l0.length : Int))) := (blk_cell BC.out 1).trans rfl; have hce2 : w5.cell? ⟨gc, 2, none⟩ = some (.int .i64 0) := (blk_cell BC.out 2).trans rfl; have hfe2 := blk_frozen BC.out 2; have hcp1 : w5.cell? ⟨gp, 1, none⟩ = some (.slice Av acc.length cv) := (blk_cell BP.out 1).trans rfl) | ((with_reducible refine gate_store (t := 3) (p := 56) rfl ?_); refine store_event (t := 3) (p := 56) (v := ?vo_) (w1 := (w5.setCell ⟨gc, 2, none⟩ (.int .i64 b))) ?hg ?ho ?hn ?hr ?_; (case ho => rfl); (case hg => rfl); (case hn => rfl); (case hr => first | (go_simp; done) | (go_simp; rfl)); intro w6 hw_; clear hce0 hce1 hce2 hfe2 hcp1; have n_ := Aside0.mk (show Kd.R k55 55 w6 w.heap.size (fun _ => True) (.slice Av acc.length cv) acc by rw [hw_]; exact Kd.R_mono (Kd.R_far (p := ⟨gc, 2, none⟩) HO.out (fun _ hk => hk.2) _) (fun _ _ => trivial)); clear HO; have HO := n_; clear n_; have n_ := Aside0.mk (show Below w.heap.size w w6 by rw [hw_]; exact below_set HB.out GC.out); clear HB; have HB := n_; clear n_; have n_ := Aside0.mk (show w6.heap[gp]? = some (.cells #[.int .i64 (l0.length : Int), .slice Av acc.length cv] 30 (0, 0)) by rw [hw_]; exact blk_far BP.out NCP.out _); clear BP; have BP := n_; clear n_; have n_ := Aside0.mk (show w6.heap[gr]? = some (.cells #[.int .i64 0, .slice none 0 0] 30 (0, 0)) by rw [hw_]; exact blk_far BR.out NCR.out _); clear BR; have BR := n_; clear n_; have n_ := Aside0.mk (show w6.heap[gz]? = some (.cells #[.int .i64 (impl_MakePuzzle.nx (impl_MakePuzzle.nx z))] 3 (0, 0)) by rw [hw_]; exact blk_far BZ.out NCZ.out _); clear BZ; have BZ := n_; clear n_; have n_ := Aside0.mk (show w6.heap[gc]? = some (.cells #[.int .i64 (Int.tmod (impl_MakePuzzle.nx z) 6), .int .i64 (Int.tmod (impl_MakePuzzle.nx (impl_MakePuzzle.nx z)) (l0.length : Int)), .int .i64 b] 55 (0, 0)) by rw [hw_]; refine blk_put (cs := #[.int .i64 (Int.tmod (impl_MakePuzzle.nx z) 6), .int .i64 (Int.tmod (impl_MakePuzzle.nx (impl_MakePuzzle.nx z)) (l0.length : Int)), .int .i64 0]) ?_ 2 _ rfl; exact BC.out); clear BC; have BC := n_; clear n_; clear hw_; have hce0 : w6.cell? ⟨gc, 0, none⟩ = some (.int .i64 (Int.tmod (impl_MakePuzzle.nx z) 6)) := (blk_cell BC.out 0).trans rfl; have hce1 : w6.cell? ⟨gc, 1, none⟩ = some (.int .i64 (Int.tmod (impl_MakePuzzle.nx (impl_MakePuzzle.nx z)) (l0.length : Int))) := (blk_cell BC.out 1).trans rfl; have hce2 : w6.cell? ⟨gc, 2, none⟩ = some (.int .i64 b) := (blk_cell BC.out 2).trans rfl; have hcp1 : w6.cell? ⟨gp, 1, none⟩ = some (.slice Av acc.length cv) := (blk_cell BP.out 1).trans rfl) | ((with_reducible refine gate_builtin (b := .append) (xs := #[.tmp 58, .tmp 60]) rfl ?_); at_builtin; refine Kd.R_append k55 (w0 := w) w.heap.size rfl (.tmp 58) (.tmp 60) 28 55 (.agg #[(.int .i64 0), (.int .i64 0), (.int .i64 0)]) 24 rfl Try.underlying28 info55 rfl (by decide) (by omega) (.slice Av acc.length cv) acc (⟨(Int.tmod (impl_MakePuzzle.nx z) 6), (Int.tmod (impl_MakePuzzle.nx (impl_MakePuzzle.nx z)) (l0.length : Int)), b⟩ : S55) [.int .i64 (Int.tmod (impl_MakePuzzle.nx z) 6), .int .i64 (Int.tmod (impl_MakePuzzle.nx (impl_MakePuzzle.nx z)) (l0.length : Int)), .int .i64 b] (fun _ => True) (fun _ => False) rfl rfl (k55_mkM _ _ _ (⟨(Int.tmod (impl_MakePuzzle.nx z) 6), (Int.tmod (impl_MakePuzzle.nx (impl_MakePuzzle.nx z)) (l0.length : Int)), b⟩ : S55)) (fun _ hk => hk.elim) (fun _ _ => trivial) HO.out HB.out (below_size HB.out) (by have := HLj.out; have := HN6.out; omega) ?_; intro v7 w7 ho_ hb_ hgr_ hat_; obtain ⟨A7, c7, ev7⟩ := Kd.R_slice ho_; subst ev7; clear hce0 hce1 hce2 hcp1; have np_ := Aside0.mk (blk_grown BP.out hgr_ (Kd.R_ne HO.out BP.out (by decide))); have nr_ := Aside0.mk (blk_grown BR.out hgr_ (Kd.R_ne HO.out BR.out (by decide))); have nz_ := Aside0.mk (blk_grown BZ.out hgr_ (Kd.R_ne HO.out BZ.out (by decide))); clear BP BR BZ HO HB BC; have BP := np_; have BR := nr_; have BZ := nz_; clear np_ nr_ nz_; have HO := Aside0.mk (show Kd.R k55 55 w7 w.heap.size (fun _ => True) (.slice A7 (acc.length + 1) c7) (acc ++ [⟨(Int.tmod (impl_MakePuzzle.nx z) 6), (Int.tmod (impl_MakePuzzle.nx (impl_MakePuzzle.nx z)) (l0.length : Int)), b⟩]) by have e_ : (acc ++ [(⟨(Int.tmod (impl_MakePuzzle.nx z) 6), (Int.tmod (impl_MakePuzzle.nx (impl_MakePuzzle.nx z)) (l0.length : Int)), b⟩ : S55)]).length = acc.length + 1 := (by simp); rw [← e_]; exact ho_); have HB := Aside0.mk hb_; clear ho_ hb_ hgr_ hat_; have hcp7 : w7.cell? ⟨gp, 1, none⟩ = some (.slice Av acc.length cv) := (blk_cell BP.out 1).trans rfl; have hfp7 := blk_frozen BP.out 1))
                go_roundg j
                case measure => omega
                case rel => exact ⟨j, _, _, _, Nat.le_refl _, by omega, by congr 1; unfold wrap64; have := HN6.out; omega, HA, ⟨by have := HLj.out; simp only [List.length_append, List.length_cons, List.length_nil]; omega⟩, ⟨blk_far BZ.out NZP.out.symm _⟩, ⟨blk_put BP.out 1 _ rfl⟩, ⟨blk_far BR.out NPR.out _⟩, ⟨Kd.R_set HO.out BP.out (by decide) 1 _⟩, ⟨below_set HB.out GP.out⟩⟩
              · skip
                have hwho : impl_MakePuzzle.who (Int.tmod (impl_MakePuzzle.nx z) 6) (impl_MakePuzzle.nx (impl_MakePuzzle.nx z)) l0 = 0 := by unfold impl_MakePuzzle.who; exact if_neg hod
                have hA2 := HA.out
                rw [hwho] at hA2
                have hT2 := HT.out
                rw [hwho] at hT2
                clear HA HT hwho
                have HA := Aside0.mk hA2
                have HT := Aside0.mk hT2
                clear hA2 hT2
                have e2 : Int.tmod (Int.tmod (impl_MakePuzzle.nx z) 6) 2 = Int.tmod (impl_MakePuzzle.nx z) 2 := by first | exact Int.tmod_tmod_of_dvd _ (by decide) | simp
                have hod5 := hod
                rw [e2] at hod5
                have hod6 : (Int.tmod (impl_MakePuzzle.nx z) 2 == 1) = false := beq_eq_false_iff_ne.mpr hod5
                clear e2
                have hob : (Int.tmod (Int.tmod (impl_MakePuzzle.nx z) 6) 2 == 1) = false := beq_eq_false_iff_ne.mpr hod
                have hod2 : decide (Int.tmod (Int.tmod (impl_MakePuzzle.nx z) 6) 2 = 1) = false := decide_eq_false hod
                go_wp2_with (first | ((first | go_at_call 44 | go_at_fn 44); with_reducible refine (impl_MakePuzzle.next wr gz z BZ.out).mono ?_; rintro e w1 ⟨rfl, hw1⟩; have n_ := Aside0.mk (show Below w.heap.size w w1 by rw [hw1]; exact below_set HB.out GZ.out); clear HB; have HB := n_; clear n_; have n_ := Aside0.mk (show Kd.R k55 55 w1 w.heap.size (fun _ => True) (.slice Av acc.length cv) acc by rw [hw1]; exact Kd.R_set HO.out BZ.out (by decide) 0 _); clear HO; have HO := n_; clear n_; have n_ := Aside0.mk (show w1.heap[gp]? = some (.cells #[.int .i64 (l0.length : Int), .slice Av acc.length cv] 30 (0, 0)) by rw [hw1]; exact blk_far BP.out NZP.out _); clear BP; have BP := n_; clear n_; have n_ := Aside0.mk (show w1.heap[gr]? = some (.cells #[.int .i64 0, .slice none 0 0] 30 (0, 0)) by rw [hw1]; exact blk_far BR.out NZR.out _); clear BR; have BR := n_; clear n_; have n_ := Aside0.mk (show w1.heap[gz]? = some (.cells #[.int .i64 (impl_MakePuzzle.nx z)] 3 (0, 0)) by rw [hw1]; exact blk_put BZ.out 0 _ rfl); clear BZ; have BZ := n_; clear n_; clear hw1) | ((with_reducible refine gate_dst (N := 11) rfl ?_); refine box_event ?hg (N := 11) ?hd (cs := #[.int .i64 0, .int .i64 0, .int .i64 0]) (t := 55) ?hr ?_; (case hd => rfl); (case hg => rfl); (case hr => first | (go_simp; done) | (go_simp; rfl)); intro gc hg_ w2 hbox_ hb_; have BC := Aside0.mk hbox_; have GC := Aside0.mk (show w.heap.size ≤ gc by rw [hg_]; exact below_size HB.out); have NCR := Aside0.mk (show gr ≠ gc by rw [hg_]; exact Nat.ne_of_lt (blk_lt BR.out)); have NCP := Aside0.mk (show gp ≠ gc by rw [hg_]; exact Nat.ne_of_lt (blk_lt BP.out)); have NCZ := Aside0.mk (show gz ≠ gc by rw [hg_]; exact Nat.ne_of_lt (blk_lt BZ.out)); have n_ := Aside0.mk (show Kd.R k55 55 w2 w.heap.size (fun k_ => True ∧ k_ ≠ gc) (.slice Av acc.length cv) acc from Kd.R_below (Kd.R_elderB HO.out gc (by rw [hg_]; exact Nat.le_refl _)) hb_); clear HO; have HO := n_; clear n_; have n_ := Aside0.mk (below_step HB.out hb_); clear HB; have HB := n_; clear n_; have n_ := Aside0.mk (blk_below BP.out hb_); clear BP; have BP := n_; clear n_; have n_ := Aside0.mk (blk_below BR.out hb_); clear BR; have BR := n_; clear n_; have n_ := Aside0.mk (blk_below BZ.out hb_); clear BZ; have BZ := n_; clear n_; have hcc0 : w2.cell? ⟨gc, 0, none⟩ = some (.int .i64 0) := (blk_cell BC.out 0).trans rfl; have hfc0 := blk_frozen BC.out 0; have hcc1 : w2.cell? ⟨gc, 1, none⟩ = some (.int .i64 0) := (blk_cell BC.out 1).trans rfl; have hfc1 := blk_frozen BC.out 1; have hcc2 : w2.cell? ⟨gc, 2, none⟩ = some (.int .i64 0) := (blk_cell BC.out 2).trans rfl; have hfc2 := blk_frozen BC.out 2; clear hg_ hbox_ hb_) | ((first | go_at_call 44 | go_at_fn 44); with_reducible refine (impl_MakePuzzle.next _ gz (impl_MakePuzzle.nx z) (blk_far (blk_far (blk_far BZ.out NCZ.out _) NCZ.out _) NCZ.out _)).mono ?_; rintro e w3 ⟨rfl, hw3⟩; clear hcc0 hcc1 hcc2 hfc0 hfc1 hfc2; have n_ := Aside0.mk (show Below w.heap.size w w3 by rw [hw3]; exact below_set (below_set (below_set (below_set HB.out GC.out) GC.out) GC.out) GZ.out); clear HB; have HB := n_; clear n_; have n_ := Aside0.mk (show Kd.R k55 55 w3 w.heap.size (fun k_ => True ∧ k_ ≠ gc) (.slice Av acc.length cv) acc by rw [hw3]; exact Kd.R_set (Kd.R_far (p := ⟨gc, 2, none⟩) (Kd.R_far (p := ⟨gc, 1, none⟩) (Kd.R_far (p := ⟨gc, 0, none⟩) HO.out (fun _ hk => hk.2) _) (fun _ hk => hk.2) _) (fun _ hk => hk.2) _) (blk_far (blk_far (blk_far BZ.out NCZ.out _) NCZ.out _) NCZ.out _) (by decide) 0 _); clear HO; have HO := n_; clear n_; have n_ := Aside0.mk (show w3.heap[gp]? = some (.cells #[.int .i64 (l0.length : Int), .slice Av acc.length cv] 30 (0, 0)) by rw [hw3]; exact blk_far (blk_far (blk_far (blk_far BP.out NCP.out _) NCP.out _) NCP.out _) NZP.out _); clear BP; have BP := n_; clear n_; have n_ := Aside0.mk (show w3.heap[gr]? = some (.cells #[.int .i64 0, .slice none 0 0] 30 (0, 0)) by rw [hw3]; exact blk_far (blk_far (blk_far (blk_far BR.out NCR.out _) NCR.out _) NCR.out _) NZR.out _); clear BR; have BR := n_; clear n_; have n_ := Aside0.mk (show w3.heap[gc]? = some (.cells #[.int .i64 (Int.tmod (impl_MakePuzzle.nx z) 6), .int .i64 0, .int .i64 0] 55 (0, 0)) by rw [hw3]; refine blk_far ?_ NCZ.out.symm _; refine blk_put (cs := #[.int .i64 (Int.tmod (impl_MakePuzzle.nx z) 6), .int .i64 0, .int .i64 0]) ?_ 2 _ rfl; refine blk_put (cs := #[.int .i64 (Int.tmod (impl_MakePuzzle.nx z) 6), .int .i64 0, .int .i64 0]) ?_ 1 _ rfl; refine blk_put (cs := #[.int .i64 0, .int .i64 0, .int .i64 0]) ?_ 0 _ rfl; exact BC.out); clear BC; have BC := n_; clear n_; have n_ := Aside0.mk (show w3.heap[gz]? = some (.cells #[.int .i64 (impl_MakePuzzle.nx (impl_MakePuzzle.nx z))] 3 (0, 0)) by rw [hw3]; exact blk_put (blk_far (blk_far (blk_far BZ.out NCZ.out _) NCZ.out _) NCZ.out _) 0 _ rfl); clear BZ; have BZ := n_; clear n_; clear hw3; have hcd0 : w3.cell? ⟨gc, 0, none⟩ = some (.int .i64 (Int.tmod (impl_MakePuzzle.nx z) 6)) := (blk_cell BC.out 0).trans rfl; have hcd1 : w3.cell? ⟨gc, 1, none⟩ = some (.int .i64 0) := (blk_cell BC.out 1).trans rfl; have hfd1 := blk_frozen BC.out 1) | (go_at_call 45; with_reducible refine (impl_tells.calls k (Int.tmod (impl_MakePuzzle.nx z) 6) 0 A0 c0 l0 b _ (Kd.C_below HR.out (HB.out)) HC.out HT.out).mono ?_; rintro e w5 ⟨rfl, hb⟩; clear hcd0 hcd1 hfd1; have n_ := Aside0.mk (show Kd.R k55 55 w5 w.heap.size (fun k_ => True ∧ k_ ≠ gc) (.slice Av acc.length cv) acc from Kd.R_below (HO.out) hb); clear HO; have HO := n_; clear n_; have n_ := Aside0.mk (show Below w.heap.size w w5 from below_step (HB.out) hb); clear HB; have HB := n_; clear n_; have n_ := Aside0.mk (blk_below (BP.out) hb); clear BP; have BP := n_; clear n_; have n_ := Aside0.mk (blk_below (BR.out) hb); clear BR; have BR := n_; clear n_; have n_ := Aside0.mk (blk_below (BZ.out) hb); clear BZ; have BZ := n_; clear n_; have n_ := Aside0.mk (show w5.heap[gc]? = some (.cells #[.int .i64 (Int.tmod (impl_MakePuzzle.nx z) 6), .int .i64 0, .int .i64 0] 55 (0, 0)) from blk_below (BC.out) hb); clear BC; have BC := n_; clear n_; clear hb; have hce0 : w5.cell? ⟨gc, 0, none⟩ = some (.int .i64 (Int.tmod (impl_MakePuzzle.nx z) 6)) := (blk_cell BC.out 0).trans rfl; have hce1 : w5.cell? ⟨gc, 1, none⟩ = some (.int .i64 0) := (blk_cell BC.out 1).trans rfl; have hce2 : w5.cell? ⟨gc, 2, none⟩ = some (.int .i64 0) := (blk_cell BC.out 2).trans rfl; have hfe2 := blk_frozen BC.out 2; have hcp1 : w5.cell? ⟨gp, 1, none⟩ = some (.slice Av acc.length cv) := (blk_cell BP.out 1).trans rfl) | ((with_reducible refine gate_store (t := 3) (p := 56) rfl ?_); refine store_event (t := 3) (p := 56) (v := ?vo_) (w1 := (w5.setCell ⟨gc, 2, none⟩ (.int .i64 b))) ?hg ?ho ?hn ?hr ?_; (case ho => rfl); (case hg => rfl); (case hn => rfl); (case hr => first | (go_simp; done) | (go_simp; rfl)); intro w6 hw_; clear hce0 hce1 hce2 hfe2 hcp1; have n_ := Aside0.mk (show Kd.R k55 55 w6 w.heap.size (fun _ => True) (.slice Av acc.length cv) acc by rw [hw_]; exact Kd.R_mono (Kd.R_far (p := ⟨gc, 2, none⟩) HO.out (fun _ hk => hk.2) _) (fun _ _ => trivial)); clear HO; have HO := n_; clear n_; have n_ := Aside0.mk (show Below w.heap.size w w6 by rw [hw_]; exact below_set HB.out GC.out); clear HB; have HB := n_; clear n_; have n_ := Aside0.mk (show w6.heap[gp]? = some (.cells #[.int .i64 (l0.length : Int), .slice Av acc.length cv] 30 (0, 0)) by rw [hw_]; exact blk_far BP.out NCP.out _); clear BP; have BP := n_; clear n_; have n_ := Aside0.mk (show w6.heap[gr]? = some (.cells #[.int .i64 0, .slice none 0 0] 30 (0, 0)) by rw [hw_]; exact blk_far BR.out NCR.out _); clear BR; have BR := n_; clear n_; have n_ := Aside0.mk (show w6.heap[gz]? = some (.cells #[.int .i64 (impl_MakePuzzle.nx (impl_MakePuzzle.nx z))] 3 (0, 0)) by rw [hw_]; exact blk_far BZ.out NCZ.out _); clear BZ; have BZ := n_; clear n_; have n_ := Aside0.mk (show w6.heap[gc]? = some (.cells #[.int .i64 (Int.tmod (impl_MakePuzzle.nx z) 6), .int .i64 0, .int .i64 b] 55 (0, 0)) by rw [hw_]; refine blk_put (cs := #[.int .i64 (Int.tmod (impl_MakePuzzle.nx z) 6), .int .i64 0, .int .i64 0]) ?_ 2 _ rfl; exact BC.out); clear BC; have BC := n_; clear n_; clear hw_; have hce0 : w6.cell? ⟨gc, 0, none⟩ = some (.int .i64 (Int.tmod (impl_MakePuzzle.nx z) 6)) := (blk_cell BC.out 0).trans rfl; have hce1 : w6.cell? ⟨gc, 1, none⟩ = some (.int .i64 0) := (blk_cell BC.out 1).trans rfl; have hce2 : w6.cell? ⟨gc, 2, none⟩ = some (.int .i64 b) := (blk_cell BC.out 2).trans rfl; have hcp1 : w6.cell? ⟨gp, 1, none⟩ = some (.slice Av acc.length cv) := (blk_cell BP.out 1).trans rfl) | ((with_reducible refine gate_builtin (b := .append) (xs := #[.tmp 58, .tmp 60]) rfl ?_); at_builtin; refine Kd.R_append k55 (w0 := w) w.heap.size rfl (.tmp 58) (.tmp 60) 28 55 (.agg #[(.int .i64 0), (.int .i64 0), (.int .i64 0)]) 24 rfl Try.underlying28 info55 rfl (by decide) (by omega) (.slice Av acc.length cv) acc (⟨(Int.tmod (impl_MakePuzzle.nx z) 6), 0, b⟩ : S55) [.int .i64 (Int.tmod (impl_MakePuzzle.nx z) 6), .int .i64 0, .int .i64 b] (fun _ => True) (fun _ => False) rfl rfl (k55_mkM _ _ _ (⟨(Int.tmod (impl_MakePuzzle.nx z) 6), 0, b⟩ : S55)) (fun _ hk => hk.elim) (fun _ _ => trivial) HO.out HB.out (below_size HB.out) (by have := HLj.out; have := HN6.out; omega) ?_; intro v7 w7 ho_ hb_ hgr_ hat_; obtain ⟨A7, c7, ev7⟩ := Kd.R_slice ho_; subst ev7; clear hce0 hce1 hce2 hcp1; have np_ := Aside0.mk (blk_grown BP.out hgr_ (Kd.R_ne HO.out BP.out (by decide))); have nr_ := Aside0.mk (blk_grown BR.out hgr_ (Kd.R_ne HO.out BR.out (by decide))); have nz_ := Aside0.mk (blk_grown BZ.out hgr_ (Kd.R_ne HO.out BZ.out (by decide))); clear BP BR BZ HO HB BC; have BP := np_; have BR := nr_; have BZ := nz_; clear np_ nr_ nz_; have HO := Aside0.mk (show Kd.R k55 55 w7 w.heap.size (fun _ => True) (.slice A7 (acc.length + 1) c7) (acc ++ [⟨(Int.tmod (impl_MakePuzzle.nx z) 6), 0, b⟩]) by have e_ : (acc ++ [(⟨(Int.tmod (impl_MakePuzzle.nx z) 6), 0, b⟩ : S55)]).length = acc.length + 1 := (by simp); rw [← e_]; exact ho_); have HB := Aside0.mk hb_; clear ho_ hb_ hgr_ hat_; have hcp7 : w7.cell? ⟨gp, 1, none⟩ = some (.slice Av acc.length cv) := (blk_cell BP.out 1).trans rfl; have hfp7 := blk_frozen BP.out 1))
                go_roundg j
                case measure => omega
                case rel => exact ⟨j, _, _, _, Nat.le_refl _, by omega, by congr 1; unfold wrap64; have := HN6.out; omega, HA, ⟨by have := HLj.out; simp only [List.length_append, List.length_cons, List.length_nil]; omega⟩, ⟨blk_far BZ.out NZP.out.symm _⟩, ⟨blk_put BP.out 1 _ rfl⟩, ⟨blk_far BR.out NPR.out _⟩, ⟨Kd.R_set HO.out BP.out (by decide) 1 _⟩, ⟨below_set HB.out GP.out⟩⟩
        · rw [if_neg q3] at h
          cases h
      · rw [if_neg q2] at h
        have H2 := Aside0.mk (show impl_between.f a2 0 9999 = some false by rw [impl_MakePuzzle.btw]; congr 1; rw [Bool.and_eq_false_iff]; rcases Int.lt_or_le a2 0 with q | q; exact Or.inl (decide_eq_false (by omega)); exact Or.inr (decide_eq_false (by omega)))
        simp only [Option.some.injEq, Prod.mk.injEq] at h
        obtain ⟨rfl, rfl, rfl⟩ := h
        go_enter Try.func16, Try.ntmps16
        go_wp2_with (first | ((with_reducible refine gate_dst (N := 6) rfl ?_); refine box_event ?hg (N := 6) ?hd (cs := #[.int .i64 0, .slice none 0 0]) (t := 30) ?hr ?_; (case hd => rfl); (case hg => rfl); (case hr => first | (go_simp; done) | (go_simp; rfl)); intro gr hg_ w6 hbox_ hb_; have BR := Aside0.mk hbox_; have HB := Aside0.mk hb_; have GR := Aside0.mk (show w.heap.size ≤ gr by rw [hg_]; exact Nat.le_refl _); clear hg_ hbox_ hb_) | (go_at_call 42; with_reducible refine (impl_areHidden.calls A0 c0 l0 _ _ (Kd.C_below HR.out HB.out) HC.out H0.out).mono ?_; rintro e w7 ⟨rfl, hb⟩; have n_ := Aside0.mk (blk_below BR.out hb); clear BR; have BR := n_; clear n_; have n_ := Aside0.mk (below_step HB.out hb); clear HB; have HB := n_; clear n_; clear hb; have hcr0 : w7.cell? ⟨gr, 0, none⟩ = some (.int .i64 0) := (blk_cell BR.out 0).trans rfl; have hcr1 : w7.cell? ⟨gr, 1, none⟩ = some (.slice none 0 0) := (blk_cell BR.out 1).trans rfl; have hfr0 := blk_frozen BR.out 0; have hfr1 := blk_frozen BR.out 1) | (go_at_call 43; with_reducible refine (impl_between.calls a1 0 6 _ _ H1.out).mono ?_; rintro e w' ⟨rfl, ⟨nd, rfl⟩⟩) | (go_at_call 43; with_reducible refine (impl_between.calls a2 0 9999 _ _ H2.out).mono ?_; rintro e w' ⟨rfl, ⟨nd, rfl⟩⟩))
        (try simp only [Exit.inBlock, Exit.then])
        refine bodyPost_ret (results_ct rfl _ _ gr 30 #[.int .i64 0, .slice none 0 0] (0, 0) _ rfl (by refine blk_put (cs := #[.int .i64 0, .slice none 0 0]) ?_ 1 _ rfl; refine blk_put (cs := #[.int .i64 0, .slice none 0 0]) ?_ 0 _ rfl; exact (by repeat (first | (with_reducible exact BR.out) | refine blk_drewN ?_ _ | refine blk_drew ?_))) Try.underlying30 rfl (by kernel_rfl)) rfl ?_
        exact ⟨_, rfl, Kd.R_nil _ _ _ _ _, below_set (below_set (by repeat (first | (with_reducible exact HB.out) | apply pw_below_drewN | apply below_drew1)) GR.out) GR.out⟩
    · rw [if_neg q1] at h
      have H1 := Aside0.mk (show impl_between.f a1 0 6 = some false by rw [impl_MakePuzzle.btw]; congr 1; rw [Bool.and_eq_false_iff]; rcases Int.lt_or_le a1 0 with q | q; exact Or.inl (decide_eq_false (by omega)); exact Or.inr (decide_eq_false (by omega)))
      simp only [Option.some.injEq, Prod.mk.injEq] at h
      obtain ⟨rfl, rfl, rfl⟩ := h
      go_enter Try.func16, Try.ntmps16
      go_wp2_with (first | ((with_reducible refine gate_dst (N := 6) rfl ?_); refine box_event ?hg (N := 6) ?hd (cs := #[.int .i64 0, .slice none 0 0]) (t := 30) ?hr ?_; (case hd => rfl); (case hg => rfl); (case hr => first | (go_simp; done) | (go_simp; rfl)); intro gr hg_ w6 hbox_ hb_; have BR := Aside0.mk hbox_; have HB := Aside0.mk hb_; have GR := Aside0.mk (show w.heap.size ≤ gr by rw [hg_]; exact Nat.le_refl _); clear hg_ hbox_ hb_) | (go_at_call 42; with_reducible refine (impl_areHidden.calls A0 c0 l0 _ _ (Kd.C_below HR.out HB.out) HC.out H0.out).mono ?_; rintro e w7 ⟨rfl, hb⟩; have n_ := Aside0.mk (blk_below BR.out hb); clear BR; have BR := n_; clear n_; have n_ := Aside0.mk (below_step HB.out hb); clear HB; have HB := n_; clear n_; clear hb; have hcr0 : w7.cell? ⟨gr, 0, none⟩ = some (.int .i64 0) := (blk_cell BR.out 0).trans rfl; have hcr1 : w7.cell? ⟨gr, 1, none⟩ = some (.slice none 0 0) := (blk_cell BR.out 1).trans rfl; have hfr0 := blk_frozen BR.out 0; have hfr1 := blk_frozen BR.out 1) | (go_at_call 43; with_reducible refine (impl_between.calls a1 0 6 _ _ H1.out).mono ?_; rintro e w' ⟨rfl, ⟨nd, rfl⟩⟩))
      (try simp only [Exit.inBlock, Exit.then])
      refine bodyPost_ret (results_ct rfl _ _ gr 30 #[.int .i64 0, .slice none 0 0] (0, 0) _ rfl (by refine blk_put (cs := #[.int .i64 0, .slice none 0 0]) ?_ 1 _ rfl; refine blk_put (cs := #[.int .i64 0, .slice none 0 0]) ?_ 0 _ rfl; exact (by repeat (first | (with_reducible exact BR.out) | refine blk_drewN ?_ _ | refine blk_drew ?_))) Try.underlying30 rfl (by kernel_rfl)) rfl ?_
      exact ⟨_, rfl, Kd.R_nil _ _ _ _ _, below_set (below_set (by repeat (first | (with_reducible exact HB.out) | apply pw_below_drewN | apply below_drew1)) GR.out) GR.out⟩

/-! ### laws_eqClue: function 72 -/
def laws_eqClue.f (a0_0 : Int) (a0_1 : Int) (a0_2 : Int) (a1_0 : Int) (a1_1 : Int) (a1_2 : Int) : Option (Bool) := if a0_0 = a1_0 then (if a0_1 = a1_1 then (if a0_2 = a1_2 then (some true) else (none)) else (none)) else (none)
set_option maxHeartbeats 8000000 in
set_option maxRecDepth 100000 in
theorem laws_eqClue.calls (a0_0 : Int) (a0_1 : Int) (a0_2 : Int) (a1_0 : Int) (a1_1 : Int) (a1_2 : Int) (r : Bool) (w : World) (h : laws_eqClue.f a0_0 a0_1 a0_2 a1_0 a1_1 a1_2 = some r) :
    Calls Try.prog 72 #[.agg #[.int .i64 a0_0, .int .i64 a0_1, .int .i64 a0_2], .agg #[.int .i64 a1_0, .int .i64 a1_1, .int .i64 a1_2]] w fun e w' => e = .returned (.bool r) ∧ Below w.heap.size w w' := by
  have hu55 := Try.underlying55
  have HB := Aside0.mk (Below.refl w.heap.size w)
  have H : (if a0_0 = a1_0 then (if a0_1 = a1_1 then (if a0_2 = a1_2 then (some true) else (none)) else (none)) else (none)) = some r := h
  clear h
  by_cases c3 : a0_0 = a1_0
  · rw [if_pos c3] at H
    have c3b0 : (a0_0 == a1_0) = true := beq_iff_eq.mpr c3
    have c3b1 : (a0_0 != a1_0) = false := bne_eq_false_iff_eq.mpr c3
    clear c3
    by_cases c4 : a0_1 = a1_1
    · rw [if_pos c4] at H
      have c4b0 : (a0_1 == a1_1) = true := beq_iff_eq.mpr c4
      have c4b1 : (a0_1 != a1_1) = false := bne_eq_false_iff_eq.mpr c4
      clear c4
      by_cases c5 : a0_2 = a1_2
      · rw [if_pos c5] at H
        have c5b0 : (a0_2 == a1_2) = true := beq_iff_eq.mpr c5
        have c5b1 : (a0_2 != a1_2) = false := bne_eq_false_iff_eq.mpr c5
        clear c5
        obtain rfl := Option.some.inj H
        go_enter Try.func72, Try.ntmps72
        go_wp2_with (first | ((with_reducible refine gate_dst (N := 2) rfl ?_); refine box_event ?hg (N := 2) ?hd (cs := #[.int .i64 a0_0, .int .i64 a0_1, .int .i64 a0_2]) (t := 55) ?hr ?_; (case hd => rfl); (case hg => rfl); (case hr => first | (go_simp; done) | (go_simp; rfl)); intro gb173 hg w6 hbox hb; have n0_ := Aside0.mk (below_step (by repeat (first | (with_reducible first | exact HB.out | apply below_alloc | apply pw_below_drewN | apply below_drew1) | exact HB.out)) hb); have n1_ := Aside0.mk (hbox); have n2_ := Aside0.mk ((by rw [hg]; exact (below_size (by repeat (first | (with_reducible first | exact HB.out | apply below_alloc | apply pw_below_drewN | apply below_drew1) | exact HB.out))) : w.heap.size ≤ gb173)); have n3_ := Aside0.mk ((by rw [hg]; exact (below_size (by repeat (first | (with_reducible first | exact HB.out | apply below_alloc | apply pw_below_drewN | apply below_drew1) | exact HB.out))) : w.heap.size ≤ gb173)); clear HB; have HB := n0_; have BK173 := n1_; have GW173 := n2_; have GE173 := n3_; clear n0_ n1_ n2_ n3_; clear hb hbox hg) | ((with_reducible refine gate_dst (N := 3) rfl ?_); refine box_event ?hg (N := 3) ?hd (cs := #[.int .i64 a1_0, .int .i64 a1_1, .int .i64 a1_2]) (t := 55) ?hr ?_; (case hd => rfl); (case hg => rfl); (case hr => first | (go_simp; done) | (go_simp; rfl)); intro gb174 hg w7 hbox hb; have n0_ := Aside0.mk (blk_below (g := gb173) (o := .cells #[.int .i64 a0_0, .int .i64 a0_1, .int .i64 a0_2] 55 (0, 0)) (by (with_reducible repeat (first | refine blk_drewN ?_ _ | refine blk_drew ?_ | refine blk_alloc ?_ _)); exact BK173.out) hb); have n1_ := Aside0.mk (below_step (by repeat (first | (with_reducible first | exact HB.out | apply below_alloc | apply pw_below_drewN | apply below_drew1 | refine below_set ?_ GE173.out) | exact HB.out)) hb); have n2_ := Aside0.mk (hbox); have n3_ := Aside0.mk ((by rw [hg]; exact (below_size (by repeat (first | (with_reducible first | exact HB.out | apply below_alloc | apply pw_below_drewN | apply below_drew1 | refine below_set ?_ GE173.out) | exact HB.out))) : w.heap.size ≤ gb174)); have n4_ := Aside0.mk ((by rw [hg]; exact (below_size (by repeat (first | (with_reducible first | exact HB.out | apply below_alloc | apply pw_below_drewN | apply below_drew1 | refine below_set ?_ GE173.out) | exact HB.out))) : w.heap.size ≤ gb174)); have n5_ := Aside0.mk ((by rw [hg]; exact Nat.ne_of_lt (blk_lt (g := gb173) (o := .cells #[.int .i64 a0_0, .int .i64 a0_1, .int .i64 a0_2] 55 (0, 0)) (by (with_reducible repeat (first | refine blk_drewN ?_ _ | refine blk_drew ?_ | refine blk_alloc ?_ _)); exact BK173.out)) : gb173 ≠ gb174)); have n6_ := Aside0.mk ((by rw [hg]; exact Nat.ne_of_gt (blk_lt (g := gb173) (o := .cells #[.int .i64 a0_0, .int .i64 a0_1, .int .i64 a0_2] 55 (0, 0)) (by (with_reducible repeat (first | refine blk_drewN ?_ _ | refine blk_drew ?_ | refine blk_alloc ?_ _)); exact BK173.out)) : gb174 ≠ gb173)); clear BK173; clear HB; have BK173 := n0_; have HB := n1_; have BK174 := n2_; have GW174 := n3_; have GE174 := n4_; have NB173_174 := n5_; have NB174_173 := n6_; clear n0_ n1_ n2_ n3_ n4_ n5_ n6_; clear hb hbox hg; have hnb8 := NB173_174.out; have hnc8 := NB174_173.out; have hcz9_0 : w7.cell? ⟨gb173, 0, none⟩ = some (.int .i64 a0_0) := (blk_cell BK173.out 0).trans rfl; have hcz9_1 : w7.cell? ⟨gb173, 1, none⟩ = some (.int .i64 a0_1) := (blk_cell BK173.out 1).trans rfl; have hcz9_2 : w7.cell? ⟨gb173, 2, none⟩ = some (.int .i64 a0_2) := (blk_cell BK173.out 2).trans rfl; have hfz9_0 := blk_frozen BK173.out 0; have hfz9_1 := blk_frozen BK173.out 1; have hfz9_2 := blk_frozen BK173.out 2; have hcz10_0 : w7.cell? ⟨gb174, 0, none⟩ = some (.int .i64 a1_0) := (blk_cell BK174.out 0).trans rfl; have hcz10_1 : w7.cell? ⟨gb174, 1, none⟩ = some (.int .i64 a1_1) := (blk_cell BK174.out 1).trans rfl; have hcz10_2 : w7.cell? ⟨gb174, 2, none⟩ = some (.int .i64 a1_2) := (blk_cell BK174.out 2).trans rfl; have hfz10_0 := blk_frozen BK174.out 0; have hfz10_1 := blk_frozen BK174.out 1; have hfz10_2 := blk_frozen BK174.out 2))
        go_ret
        exact ⟨by first | rfl | (simp [errW_none, errW_some] <;> rfl) | (simp [*, errW_none, errW_some] <;> rfl), by repeat (first | (with_reducible first | exact HB.out | apply below_alloc | apply pw_below_drewN | apply below_drew1 | refine below_set ?_ GE173.out | refine below_set ?_ GE174.out) | exact HB.out)⟩
      · rw [if_neg c5] at H
        exact absurd H (by simp)
    · rw [if_neg c4] at H
      exact absurd H (by simp)
  · rw [if_neg c3] at H
    exact absurd H (by simp)

/-! ### laws_eqClueS: function 46 -/
def laws_eqClueS.l0 : Nat → List (S55) → List (S55) → Int → Option (Bool)
  | 0, _, _, _ => none
  | k + 1, x0, x1, x5 => if x5 < (x0.length : Int) then (if 0 ≤ x5 then (if x5 < (x1.length : Int) then ((laws_eqClue.f ((rd_T55 x0 x5).f0) ((rd_T55 x0 x5).f1) ((rd_T55 x0 x5).f2) ((rd_T55 x1 x5).f0) ((rd_T55 x1 x5).f1) ((rd_T55 x1 x5).f2)).bind fun t177 => (if t177 = true then (laws_eqClueS.l0 k x0 x1 (wrap64 (x5 + 1))) else (none))) else (none)) else (none)) else (some true)
def laws_eqClueS.f (k : Nat) (l0 : List (S55)) (l1 : List (S55)) : Option (Bool) := if (l0.length : Int) = (l1.length : Int) then (laws_eqClueS.l0 k l0 l1 0) else (none)
theorem laws_eqClueS.mono_l : ∀ k, (∀ y0 y1 y2, LeO (laws_eqClueS.l0 k y0 y1 y2) (laws_eqClueS.l0 (k + 1) y0 y1 y2))
  | 0 => fun _ _ _ r h => by simp [laws_eqClueS.l0] at h
  | k + 1 => by
    have ih0 := laws_eqClueS.mono_l k
    · intro y0 y1 y2
      unfold laws_eqClueS.l0
      repeat' first
      | (with_reducible exact ih0 _ _ _)
      | (with_reducible exact LeO.refl _)
      | (with_reducible exact LeO.none _)
      | (with_reducible refine LeO.ite ?_ ?_)
      | (with_reducible refine LeO.bind ?_ (fun _ => ?_))
      | exact ih0 _ _ _
      | exact LeO.none _
      | refine LeO.ite ?_ ?_
      | refine LeO.bind ?_ (fun _ => ?_)
theorem laws_eqClueS.mono : ∀ a0 a1 k, LeO (laws_eqClueS.f k a0 a1) (laws_eqClueS.f (k + 1) a0 a1) := by
  intro a0 a1 k
  have ih0 := laws_eqClueS.mono_l k
  unfold laws_eqClueS.f
  repeat' first
      | (with_reducible exact ih0 _ _ _)
      | (with_reducible exact LeO.refl _)
      | (with_reducible exact LeO.none _)
      | (with_reducible refine LeO.ite ?_ ?_)
      | (with_reducible refine LeO.bind ?_ (fun _ => ?_))
      | exact ih0 _ _ _
      | exact LeO.none _
      | refine LeO.ite ?_ ?_
      | refine LeO.bind ?_ (fun _ => ?_)
def laws_eqClueS.T6 : Bool × List (List Nat × List Nat) := (true, [([], []), ([], []), ([0, 1], [0, 1]), ([2], [2]), ([], []), ([], []), ([4, 5], [4, 5]), ([6], [6]), ([3, 7], [3, 7]), ([8], [8])])
def laws_eqClueS.B6 : List Nat := [0, 0, 3, 7, 0, 0, 48, 112, 255, 511]
theorem laws_eqClueS.tab6 : rtab .any (opsOf Try.f46 6) = laws_eqClueS.T6 := by kernel_rfl
theorem laws_eqClueS.bits6 : waitsOk laws_eqClueS.T6.2 laws_eqClueS.B6 = true := by kernel_rfl
set_option maxHeartbeats 8000000 in
set_option maxRecDepth 100000 in
theorem laws_eqClueS.calls (k : Nat) (A0 : Option Addr) (c0 : Nat) (l0 : List (S55)) (A1 : Option Addr) (c1 : Nat) (l1 : List (S55)) (r : Bool) (w : World) (hr0 : Kd.C k55 w A0 l0.length l0) (hc0 : l0.length ≤ c0) (hr1 : Kd.C k55 w A1 l1.length l1) (hc1 : l1.length ≤ c1) (h : laws_eqClueS.f k l0 l1 = some r) :
    Calls Try.prog 46 #[.slice A0 l0.length c0, .slice A1 l1.length c1] w fun e w' => e = .returned (.bool r) ∧ Below w.heap.size w w' := by
  have hu55 := Try.underlying55
  have HR0 := Aside0.mk hr0
  have HC0 := Aside0.mk hc0
  clear hr0 hc0
  have HR1 := Aside0.mk hr1
  have HC1 := Aside0.mk hc1
  clear hr1 hc1
  have HB := Aside0.mk (Below.refl w.heap.size w)
  have H : (if (l0.length : Int) = (l1.length : Int) then (laws_eqClueS.l0 k l0 l1 0) else (none)) = some r := h
  clear h
  by_cases c3 : (l0.length : Int) = (l1.length : Int)
  · rw [if_pos c3] at H
    have c3b0 : ((l0.length : Int) == (l1.length : Int)) = true := beq_iff_eq.mpr c3
    have c3b1 : ((l0.length : Int) != (l1.length : Int)) = false := bne_eq_false_iff_eq.mpr c3
    have c3b2 : (l0.length == l1.length) = true := by first | simpa using c3 | (simp at c3 ⊢; omega)
    clear c3
    have H' := Aside0.mk H
    clear H
    go_enter Try.func46, Try.ntmps46
    go_wp2
    go_loopg [5] k (fun kq v5 w' => ∃ (x5_1 : Int), v5 = .int .i64 x5_1 ∧ Aside0 (laws_eqClueS.l0 kq l0 l1 x5_1 = some r) ∧ Aside0 (kq ≤ k) ∧ Aside0 (Below w.heap.size w w'))
    case atStart => exact ⟨(0), (by first | rfl | (simp; done) | (simp [*]; done)), H', ⟨Nat.le_refl _⟩, ⟨by repeat (first | (with_reducible first | exact HB.out | apply below_alloc | apply pw_below_drewN | apply below_drew1) | exact HB.out)⟩⟩
    case round =>
      clear H'
      try clear c1
      try clear p2
      try clear c3
      try clear c3b0
      try clear c3b1
      try clear c3b2
      obtain ⟨x5_1, rfl, HA, HK1, HB⟩ := hrel
      cases gk with
      | zero => exact absurd HA.out (by simp [laws_eqClueS.l0])
      | succ k1 =>
        have H := HA.out
        clear HA
        simp only [laws_eqClueS.l0] at H
        by_cases c4 : x5_1 < (l0.length : Int)
        · rw [if_pos c4] at H
          have c4b0 : decide (x5_1 < (l0.length : Int)) = true := decide_eq_true c4
          clear c4
          by_cases c5 : 0 ≤ x5_1
          · rw [if_pos c5] at H
            have c5b0 : decide (0 ≤ x5_1) = true := decide_eq_true c5
            clear c5
            by_cases c6 : x5_1 < (l1.length : Int)
            · rw [if_pos c6] at H
              have c6b0 : decide (x5_1 < (l1.length : Int)) = true := decide_eq_true c6
              clear c6
              replace H := Option.bind_eq_some_iff.mp H
              obtain ⟨t177, A70, H⟩ := H
              replace H : (if t177 = true then (laws_eqClueS.l0 k1 l0 l1 (wrap64 (x5_1 + 1))) else (none)) = some r := H
              have A7 := Aside0.mk A70
              clear A70
              by_cases c8 : t177 = true
              · subst c8
                have H1 : (laws_eqClueS.l0 k1 l0 l1 (wrap64 (x5_1 + 1))) = some r := by rw [if_pos rfl] at H; exact H
                clear H
                have H := H1
                clear H1
                have H' := Aside0.mk H
                clear H
                try go_wp2
                have n0_ := Aside0.mk (below_drew1 HB.out)
                clear HB
                have HB := n0_
                clear n0_
                have p175 : 0 ≤ (x5_1 : Int) := of_decide_eq_true (by first | (with_reducible assumption) | assumption)
                have q175 : x5_1 < (l0.length : Int) := of_decide_eq_true (by first | (with_reducible assumption) | assumption)
                obtain ⟨ad175, e175, hx175_0, hx175_1, hx175_2⟩ := at_T55 HR0.out x5_1 p175 q175
                have hw175_2 := hx175_2
                have hw175_1 := hx175_1
                have hw175_0 := hx175_0
                cases e175
                replace hx175_0 := (HB.out.cell (World.block_lt_of_cell? w _ hx175_0)).trans hx175_0
                replace hx175_1 := (HB.out.cell (World.block_lt_of_cell? w _ hx175_1)).trans hx175_1
                replace hx175_2 := (HB.out.cell (World.block_lt_of_cell? w _ hx175_2)).trans hx175_2
                replace p175 := eq_true p175
                replace q175 := eq_true q175
                have p176 : 0 ≤ (x5_1 : Int) := of_decide_eq_true (by first | (with_reducible assumption) | assumption)
                have q176 : x5_1 < (l1.length : Int) := of_decide_eq_true (by first | (with_reducible assumption) | assumption)
                obtain ⟨ad176, e176, hx176_0, hx176_1, hx176_2⟩ := at_T55 HR1.out x5_1 p176 q176
                have hw176_2 := hx176_2
                have hw176_1 := hx176_1
                have hw176_0 := hx176_0
                cases e176
                replace hx176_0 := (HB.out.cell (World.block_lt_of_cell? w _ hx176_0)).trans hx176_0
                replace hx176_1 := (HB.out.cell (World.block_lt_of_cell? w _ hx176_1)).trans hx176_1
                replace hx176_2 := (HB.out.cell (World.block_lt_of_cell? w _ hx176_2)).trans hx176_2
                replace p176 := eq_true p176
                replace q176 := eq_true q176
                refine start_ (n := 10) (S := fun w' => w'.cell? (ad175.add ((x5_1).toNat * 3)) = some (.int .i64 ((rd_T55 l0 x5_1).f0)) ∧ w'.cell? ⟨(ad175.add ((x5_1).toNat * 3)).block, (ad175.add ((x5_1).toNat * 3)).off + 1, none⟩ = some (.int .i64 ((rd_T55 l0 x5_1).f1)) ∧ w'.cell? ⟨(ad175.add ((x5_1).toNat * 3)).block, (ad175.add ((x5_1).toNat * 3)).off + 2, none⟩ = some (.int .i64 ((rd_T55 l0 x5_1).f2)) ∧ w'.cell? (ad176.add ((x5_1).toNat * 3)) = some (.int .i64 ((rd_T55 l1 x5_1).f0)) ∧ w'.cell? ⟨(ad176.add ((x5_1).toNat * 3)).block, (ad176.add ((x5_1).toNat * 3)).off + 1, none⟩ = some (.int .i64 ((rd_T55 l1 x5_1).f1)) ∧ w'.cell? ⟨(ad176.add ((x5_1).toNat * 3)).block, (ad176.add ((x5_1).toNat * 3)).off + 2, none⟩ = some (.int .i64 ((rd_T55 l1 x5_1).f2))) (ds := []) #[false, false, false, false, false, false, false, false, false, false] (by kernel_rfl) rfl rfl ⟨((HB.out.cell (World.block_lt_of_cell? w _ hw175_0)).trans hw175_0), ((HB.out.cell (World.block_lt_of_cell? w _ hw175_1)).trans hw175_1), ((HB.out.cell (World.block_lt_of_cell? w _ hw175_2)).trans hw175_2), ((HB.out.cell (World.block_lt_of_cell? w _ hw176_0)).trans hw176_0), ((HB.out.cell (World.block_lt_of_cell? w _ hw176_1)).trans hw176_1), ((HB.out.cell (World.block_lt_of_cell? w _ hw176_2)).trans hw176_2)⟩ (fun hHeld => ?_); refine with_tabW laws_eqClueS.tab6 laws_eqClueS.bits6 (fun HT_ HW_ => ?_)
                generalize wr.drew = w9 at HB hx175_0 hx175_1 hx175_2 hx176_0 hx176_1 hx176_2 hHeld ⊢
                refine pure_ (i := 0) (N := some 17) (v := ?_) (a' := ?_) #[true, false, false, false, false, false, false, false, false, false] rfl rfl (any_of HT_.out (by kernel_rfl)) (fun _ _ _ h => h) (Or.inl ⟨by rfl, ?_⟩) ?_ ?_
                rotate_left
                · intro w'
                  go_simp
                  with_reducible rfl
                rotate_left
                · simp only [Act.put, List.setIfInBounds_toArray, List.set_cons_zero, List.set_cons_succ, i64_w, i32_w]
                  rfl
                refine pure_ (i := 1) (N := some 18) (v := ?_) (a' := ?_) #[true, true, false, false, false, false, false, false, false, false] rfl rfl (any_of HT_.out (by kernel_rfl)) (fun _ _ _ h => h) (Or.inl ⟨by rfl, ?_⟩) ?_ ?_
                rotate_left
                · intro w'
                  go_simp
                  with_reducible rfl
                rotate_left
                · simp only [Act.put, List.setIfInBounds_toArray, List.set_cons_zero, List.set_cons_succ, i64_w, i32_w]
                  rfl
                refine pure_ (i := 2) (N := some 19) (v := ?_) (a' := ?_) #[true, true, true, false, false, false, false, false, false, false] rfl rfl (any_of HT_.out (by kernel_rfl)) (fun _ _ _ h => h) (Or.inl ⟨by rfl, ?_⟩) ?_ ?_
                rotate_left
                · intro w'
                  go_simp
                  with_reducible rfl
                rotate_left
                · simp only [Act.put, List.setIfInBounds_toArray, List.set_cons_zero, List.set_cons_succ, i64_w, i32_w]
                  rfl
                refine pure_ (i := 4) (N := some 21) (v := ?_) (a' := ?_) #[true, true, true, false, true, false, false, false, false, false] rfl rfl (any_of HT_.out (by kernel_rfl)) (fun _ _ _ h => h) (Or.inl ⟨by rfl, ?_⟩) ?_ ?_
                rotate_left
                · intro w'
                  go_simp
                  with_reducible rfl
                rotate_left
                · simp only [Act.put, List.setIfInBounds_toArray, List.set_cons_zero, List.set_cons_succ, i64_w, i32_w]
                  rfl
                refine pure_ (i := 5) (N := some 22) (v := ?_) (a' := ?_) #[true, true, true, false, true, true, false, false, false, false] rfl rfl (any_of HT_.out (by kernel_rfl)) (fun _ _ _ h => h) (Or.inl ⟨by rfl, ?_⟩) ?_ ?_
                rotate_left
                · intro w'
                  go_simp
                  with_reducible rfl
                rotate_left
                · simp only [Act.put, List.setIfInBounds_toArray, List.set_cons_zero, List.set_cons_succ, i64_w, i32_w]
                  rfl
                refine pure_ (i := 6) (N := some 23) (v := ?_) (a' := ?_) #[true, true, true, false, true, true, true, false, false, false] rfl rfl (any_of HT_.out (by kernel_rfl)) (fun _ _ _ h => h) (Or.inl ⟨by rfl, ?_⟩) ?_ ?_
                rotate_left
                · intro w'
                  go_simp
                  with_reducible rfl
                rotate_left
                · simp only [Act.put, List.setIfInBounds_toArray, List.set_cons_zero, List.set_cons_succ, i64_w, i32_w]
                  rfl
                refine take_ (i := 3) (N := some 20) (v := ?_) (a' := ?_) #[true, true, true, true, true, true, true, false, false, false] rfl rfl (take_ofW HT_.out HW_.out (by kernel_rfl)) (fun _ _ _ h => h) (Or.inl ⟨by rfl, ?_⟩) hHeld ?_ ?_
                rotate_left
                · rintro w' ⟨s0, s1, s2, s3, s4, s5⟩
                  go_simp
                  with_reducible rfl
                rotate_left
                · simp only [Act.put, List.setIfInBounds_toArray, List.set_cons_zero, List.set_cons_succ, i64_w, i32_w]
                  rfl
                refine take_ (i := 7) (N := some 24) (v := ?_) (a' := ?_) #[true, true, true, true, true, true, true, true, false, false] rfl rfl (take_ofW HT_.out HW_.out (by kernel_rfl)) (fun _ _ _ h => h) (Or.inl ⟨by rfl, ?_⟩) hHeld ?_ ?_
                rotate_left
                · rintro w' ⟨s0, s1, s2, s3, s4, s5⟩
                  go_simp
                  with_reducible rfl
                rotate_left
                · simp only [Act.put, List.setIfInBounds_toArray, List.set_cons_zero, List.set_cons_succ, i64_w, i32_w]
                  rfl
                refine one_ (i := 8) (N := some 25) #[true, true, true, true, true, true, true, true, true, false] rfl rfl (one_of HT_.out (by kernel_rfl)) (by decide) (fun K hK => ?_)
                refine goes_ Try.func72 (by kernel_rfl) rfl #[.agg #[.int .i64 ((rd_T55 l0 x5_1).f0), .int .i64 ((rd_T55 l0 x5_1).f1), .int .i64 ((rd_T55 l0 x5_1).f2)], .agg #[.int .i64 ((rd_T55 l1 x5_1).f0), .int .i64 ((rd_T55 l1 x5_1).f1), .int .i64 ((rd_T55 l1 x5_1).f2)]] (by rfl) rfl rfl (by (try simp only [List.map_toArray, List.map_cons, List.map_nil]); first | done | rfl | (simp only [List.length_drop, List.length_take]; rfl)) ?_
                with_reducible refine (laws_eqClue.calls ((rd_T55 l0 x5_1).f0) ((rd_T55 l0 x5_1).f1) ((rd_T55 l0 x5_1).f2) ((rd_T55 l1 x5_1).f0) ((rd_T55 l1 x5_1).f1) ((rd_T55 l1 x5_1).f2) true _ A7.out).mono ?_
                rintro e w10 ⟨rfl, hb⟩
                refine ⟨_, rfl, ?_⟩
                have n0_ := Aside0.mk (below_step (by repeat (first | (with_reducible first | exact HB.out | apply below_alloc | apply pw_below_drewN | apply below_drew1) | exact HB.out)) hb)
                clear HB
                have HB := n0_
                clear n0_
                (try clear hb)
                (try clear hb2)
                (try clear hk)
                (try clear hi)
                refine hK.out _ _ ⟨((HB.out.cell (World.block_lt_of_cell? w _ hw175_0)).trans hw175_0), ((HB.out.cell (World.block_lt_of_cell? w _ hw175_1)).trans hw175_1), ((HB.out.cell (World.block_lt_of_cell? w _ hw175_2)).trans hw175_2), ((HB.out.cell (World.block_lt_of_cell? w _ hw176_0)).trans hw176_0), ((HB.out.cell (World.block_lt_of_cell? w _ hw176_1)).trans hw176_1), ((HB.out.cell (World.block_lt_of_cell? w _ hw176_2)).trans hw176_2)⟩ (fun hHeld => ?_)
                clear hK K
                refine norm_ (a' := ?_) ?_ ?_
                rotate_left
                · show Act.put _ (some 25) _ = _
                  simp only [Act.put, List.setIfInBounds_toArray, List.set_cons_zero, List.set_cons_succ, i64_w, i32_w]
                  rfl
                refine pure_ (i := 9) (N := some 26) (v := ?_) (a' := ?_) #[true, true, true, true, true, true, true, true, true, true] rfl rfl (any_of HT_.out (by kernel_rfl)) (fun _ _ _ h => h) (Or.inl ⟨by rfl, ?_⟩) ?_ ?_
                rotate_left
                · intro w'
                  go_simp
                  with_reducible rfl
                rotate_left
                · simp only [Act.put, List.setIfInBounds_toArray, List.set_cons_zero, List.set_cons_succ, i64_w, i32_w]
                  rfl
                refine done_ (done_of HT_.out (by kernel_rfl)) ?_
                try go_wp2
                go_roundg k1
                case measure => have := HK1.out; omega
                case rel => exact ⟨(wrap64 (x5_1 + 1)), (by first | rfl | (simp; done) | (simp [*]; done)), H', ⟨by have := HK1.out; omega⟩, ⟨by repeat (first | (with_reducible first | exact HB.out | apply below_alloc | apply pw_below_drewN | apply below_drew1) | exact HB.out)⟩⟩
              · replace c8 := Bool.eq_false_iff.mpr c8
                subst c8
                have H1 : (none) = some r := by rw [if_neg (show ¬ (false = true) by decide)] at H; exact H
                clear H
                have H := H1
                clear H1
                exact absurd H (by simp)
            · rw [if_neg c6] at H
              exact absurd H (by simp)
          · rw [if_neg c5] at H
            exact absurd H (by simp)
        · rw [if_neg c4] at H
          have c4b0 : decide (x5_1 < (l0.length : Int)) = false := decide_eq_false c4
          clear c4
          obtain rfl := Option.some.inj H
          go_wp2
          go_ret
          exact ⟨by first | rfl | (simp [errW_none, errW_some] <;> rfl) | (simp [*, errW_none, errW_some] <;> rfl), by repeat (first | (with_reducible first | exact HB.out | apply below_alloc | apply pw_below_drewN | apply below_drew1) | exact HB.out)⟩
  · rw [if_neg c3] at H
    exact absurd H (by simp)

end Go.Proofs.Ytennnaibnlmjlaa.M
