/- The walks of the Go functions that these laws reach: each is proved to do what a plain Lean function says. -/
import Derived.Test.YtennnaibnlmjlaaN0
import Derived.Test.YtennnaibnlmjlaaN15
namespace Go.Proofs.Ytennnaibnlmjlaa.N
open Go.RowKit Go.Proofs.YtennnaibnlmjlaaW.PrintWords Go.Proofs.YtennnaibnlmjlaaW.PrintLast Go.Proofs.YtennnaibnlmjlaaW.PrintMore
attribute [local go_sem] max2_int min2_int max_two min_two max_three min_three max_four min_four   -- for this text's walks alone
set_option linter.unusedVariables false
set_option linter.unusedSimpArgs false

/-! ### impl_without: function 58 -/
/-! ### impl.without: slices.Clone, then slices.Delete of one -/
def impl_without.f (l0 : List S55) (a1 : Int) : Option (List S55) := if 0 ≤ a1 ∧ a1 < (l0.length : Int) ∧ l0.length ≤ 1048576 then some (l0.eraseIdx a1.toNat) else none
theorem wo_clear0 (g o m c : Nat) (w1 : World) (hm : m = 1) (cur : Array Value) (hh : w1.heap[g]? = some (.cells cur 55 (0, 0))) (hfit : o + 3 ≤ cur.size) : (Builtin.clear_ #[28] 0 #[.slice (some ⟨g, o, none⟩) m c]).run Try.prog w1 = .ok (.tuple #[]) (w1.setCells g o [.int .i64 0, .int .i64 0, .int .i64 0]) := by
  subst hm
  have hst := run_storeCells_cells (P := Try.prog) g o [.int .i64 0, .int .i64 0, .int .i64 0] 0 w1 (fun j hj => by rw [blk_cell hh]; simp at hj ⊢; omega) (fun j _ => blk_frozen hh _) (by intro v hv; simp at hv; subst hv; rfl)
  simp only [Nat.add_zero] at hst
  have hv : ∀ w, (zeroValue 55).run Try.prog w = .ok (.agg #[.int .i64 0, .int .i64 0, .int .i64 0]) w := fun w => by kernel_rfl
  have hzc : (Builtin.zeroCells (Value.agg #[.int .i64 0, .int .i64 0, .int .i64 0]).cells 1).toList = [.int .i64 0, .int .i64 0, .int .i64 0] := by kernel_rfl
  simp [Builtin.clear_, run_underlying Try.underlying28, hv, hzc, hst]
set_option maxRecDepth 100000 in
theorem wo_clear (g n c : Nat) (w1 : World) {base : Nat} {ok : Nat → Prop} (ys : List S55) (h0 : 0 < n) (h1 : n ≤ 1048576) (hc : n ≤ c) (ho : Kd.R k55 55 w1 base ok (.slice (some ⟨g, 0, none⟩) (n - 1) c) ys) : (Builtin.clear_ #[28] 0 #[.slice (some ⟨g, (n - 1) * 3, none⟩) (n - (n - 1)) (c - (n - 1))]).run Try.prog w1 = .ok (.tuple #[]) (w1.setCells g ((n - 1) * 3) [.int .i64 0, .int .i64 0, .int .i64 0]) := by
  obtain ⟨_, inner, ⟨_, hor⟩, _⟩ := ho
  rcases hor with ⟨hv, _⟩ | ⟨g', cap', cur, hv, hb, hh, _, hcm, hcs, htake⟩
  · cases hv
  · injection hv with ha hn hcc
    injection ha with ha
    injection ha with hg
    subst hg hcc
    refine wo_clear0 g _ _ _ w1 (by omega) cur hh ?_
    have hsz : cur.size = c * 3 := hcs
    omega
/-- What is written behind a row's end leaves the row as it is. -/
theorem wo_tail (g m c o : Nat) (w1 : World) {base : Nat} (zs : List Value) (ys : List S55) (ho : Kd.R k55 55 w1 base (fun _ => True) (.slice (some ⟨g, 0, none⟩) m c) ys) (hm : ys.length * 3 ≤ o) (hfit : o + zs.length ≤ c * 3) : Kd.R k55 55 (w1.setCells g o zs) base (fun _ => True) (.slice (some ⟨g, 0, none⟩) m c) ys := by
  obtain ⟨hok, inner, ⟨hi, hor⟩, hr⟩ := ho
  rcases hor with ⟨hv, _⟩ | ⟨g', cap', cur, hv, hb, hh, hle, hcm, hcs, htake⟩
  · cases hv
  · have hv0 := hv
    injection hv with ha hn hcc
    injection ha with ha
    injection ha with hg
    subst hg hcc
    have hsz : cur.size = c * 3 := hcs
    obtain ⟨cur', h3, h4, h5⟩ := setCells_row zs o w1 cur hh (by omega)
    have hfar : ∀ k', k' ≠ g → (w1.setCells g o zs).heap[k']? = w1.heap[k']? := fun k' hk' => setCells_far zs _ k' hk'
    refine ⟨hok, inner, ⟨hi, .inr ⟨g, c, cur', hv0, hb, h3, hle, hcm, by rw [h4, hcs], ?_⟩⟩, hr.imp_ (fun p q hp => (k55).M_move (fun k' hk' => hfar k' (fun he => hk'.2 (by rw [he]; rfl))) hp)⟩
    rw [h5, List.append_assoc, List.take_append_of_le_length (by rw [List.length_take]; have : ys.length * (k55).sz ≤ o := hm; simp; omega), List.take_take, Nat.min_eq_left (show ys.length * (k55).sz ≤ o from hm)]
    exact htake
theorem wo_below {base g o : Nat} {w0 w1 : World} (vs : List Value) (h : Below base w0 w1) (hg : base ≤ g) : Below base w0 (w1.setCells g o vs) := by
  obtain ⟨s1, s2, s3, s4⟩ := setCells_same g vs o w1
  exact ⟨s1.trans h.os, s2.trans h.tape, s3.trans h.output, by rw [s4]; exact h.size, fun k hk => (setCells_far vs o k (by omega)).trans (h.block k hk)⟩
theorem wo_info : (Try.prog.info? 55).map (fun i => i.size) = some 3 := by kernel_rfl
set_option maxHeartbeats 4000000 in
set_option maxRecDepth 100000 in
theorem delete_one (w0 W : World) (base g c n k : Nat) (xs : List S55) (hn : xs.length = n) (hk : k < n) (hnm : n ≤ 1048576) (HO : Kd.R k55 55 W base (fun _ => True) (.slice (some ⟨g, 0, none⟩) n c) xs) (HB : Below base w0 W) (hbase : base ≤ W.heap.size) :
    Calls Try.prog 82 #[.slice (some ⟨g, 0, none⟩) n c, .int .i64 (k : Int), .int .i64 ((k + 1 : Nat) : Int)] W fun e w' => e = .returned (.slice (some ⟨g, 0, none⟩) (n - 1) c) ∧ Kd.R k55 55 w' base (fun _ => True) (.slice (some ⟨g, 0, none⟩) (n - 1) c) (xs.eraseIdx k) ∧ Below base w0 w' := by
  have hu := Try.underlying55
  have hnc : n ≤ c := (Kd.R_reads' HO).2.1
  have hne : ¬ ((k : Int) = ((k + 1 : Nat) : Int)) := by omega
  have hk0 : (0 : Int) ≤ (k : Int) := by omega
  have hk1 : (k : Int) ≤ ((k + 1 : Nat) : Int) := by omega
  have hk2 : ((k + 1 : Nat) : Int) ≤ (n : Int) := by omega
  have hk3 : (n : Int) ≤ (c : Int) := by omega
  have hkc : k ≤ c := by omega
  have hk6 : (0 : Int) ≤ (k : Int) + 1 := by omega
  have hk7 : (k : Int) + 1 ≤ (n : Int) := by omega
  have hk8 : (k : Int) + 1 ≤ (c : Int) := by omega
  have hkn : k + 1 ≤ n := by omega
  have hkb : ((k : Int) == (k : Int) + 1) = false := beq_eq_false_iff_ne.mpr (by omega)
  have HO' := Aside0.mk HO
  have HB' := Aside0.mk HB
  clear HO HB
  go_enter Try.func82, Try.ntmps82
  go_wp2_with fail
  by_cases hck : c = k + 1
  · have hcn : n = k + 1 := by omega
    subst hcn hck
    have hk4 : (k : Int) ≤ (k : Int) + 1 := by omega
    have hk5 : k ≤ k + 1 := by omega
    have HO1 := Aside0.mk (Kd.R_take HO'.out (m := k) (by omega))
    have hclr : (Builtin.clear_ #[28] 0 #[.slice (some ⟨g, k * 3, none⟩) 1 1]).run Try.prog W.drew = .ok (.tuple #[]) (W.drew.setCells g (k * 3) [.int .i64 0, .int .i64 0, .int .i64 0]) := by
      have h := wo_clear g (k + 1) (k + 1) W.drew (xs.take k) (by omega) hnm (Nat.le_refl _) (Kd.R_drew HO1.out)
      rw [show k + 1 - 1 = k by omega, show k + 1 - k = 1 by omega] at h
      exact h
    go_region_held3 (fun _ => True) (exact trivial) (fail)
    all_goals
      go_wp2_with fail
      go_ret
      have hel : xs.eraseIdx k = xs.take k := by rw [List.eraseIdx_eq_take_drop_succ, List.drop_eq_nil_of_le (by omega), List.append_nil]
      rw [hel]
      exact ⟨rfl, wo_tail g k (k + 1) _ W.drew _ _ (Kd.R_drew HO1.out) (by rw [List.length_take]; omega) (by simp only [List.length_cons, List.length_nil]; omega), wo_below _ (below_drew1 HB'.out) (Kd.R_base HO1.out g rfl)⟩
  · go_region_held3 (fun _ => True) (exact trivial) (first | (refine Kd.R_delete_step k55 (w0 := w0) base (by rfl) (.tmp 22) (.tmp 25) 28 55 rfl Try.underlying28 wo_info (g := g) (n := n) (c := c) (k := k) (m := n - (k + 1)) rfl rfl ?hA rfl HO'.out hk (below_drew1 HB'.out) hbase ?_; (case hA => (rw [if_neg hck]; simp [Addr.add]; rfl)); intro w1 ho hb hgr; have HO1 := Aside0.mk ho; have HB1 := Aside0.mk hb; have hclr := wo_clear g n c w1 (xs.eraseIdx k) (by omega) (by omega) hnc HO1.out; clear ho hb hgr))
    all_goals
      go_wp2_with fail
      go_ret
      have hel : (xs.eraseIdx k).length = n - 1 := by rw [List.length_eraseIdx_of_lt (by omega), hn]
      exact ⟨rfl, wo_tail g (n - 1) c _ w1 _ _ HO1.out (by rw [hel]; exact Nat.le_refl _) (by simp only [List.length_cons, List.length_nil]; omega), wo_below _ HB1.out (Kd.R_base HO1.out g rfl)⟩
set_option maxHeartbeats 4000000 in
set_option maxRecDepth 100000 in
theorem impl_without.calls (A0 : Option Addr) (c0 : Nat) (l0 : List (S55)) (a1 : Int) (r : List (S55)) (w : World) (hr0 : Kd.C k55 w A0 l0.length l0) (hc0 : l0.length ≤ c0) (h : impl_without.f l0 a1 = some r) :
    Calls Try.prog 58 #[.slice A0 l0.length c0, .int .i64 a1] w fun e w' => ∃ v0_ : Value, e = .returned (v0_) ∧ Kd.R k55 55 w' w.heap.size (fun _ => True) v0_ r ∧ Below w.heap.size w w' := by
  unfold impl_without.f at h
  by_cases hp : 0 ≤ a1 ∧ a1 < (l0.length : Int) ∧ l0.length ≤ 1048576
  · rw [if_pos hp] at h
    obtain rfl := Option.some.inj h
    obtain ⟨k, hk⟩ : ∃ k : Nat, a1 = (k : Int) := ⟨a1.toNat, by omega⟩
    subst hk
    rw [Int.toNat_natCast]
    have hkn : k < l0.length := by omega
    have hw : wrap64 ((k : Int) + 1) = ((k + 1 : Nat) : Int) := by unfold wrap64; omega
    have HC := Aside0.mk (impl_Clue_61.calls A0 c0 l0 l0 w hr0 hc0 (by unfold impl_Clue_61.f; rw [Option.bind_some, if_pos (by simp; omega)]; simp))
    clear hr0 hc0 h
    go_enter Try.func58, Try.ntmps58
    go_wp2_with fail
    refine HC.out.mono ?_
    rintro e w1 ⟨v1, rfl, ho1, hb1⟩
    obtain ⟨g, c, ev, hg, hlt, hcc⟩ := Kd.R_form ho1 (by omega)
    subst ev
    have HD := Aside0.mk (delete_one w w1 w.heap.size g c l0.length k l0 rfl hkn hp.2.2 ho1 hb1 hb1.size)
    clear ho1 hb1 HC hcc
    go_wp2_with fail
    refine HD.out.mono ?_
    rintro e w2 ⟨rfl, ho2, hb2⟩
    have HO2 := Aside0.mk ho2
    have HB2 := Aside0.mk hb2
    clear ho2 hb2
    go_wp2
    go_ret
    exact ⟨_, rfl, HO2.out, HB2.out⟩
  · rw [if_neg hp] at h
    cases h

end Go.Proofs.Ytennnaibnlmjlaa.N
