/- The walks of the Go functions that these laws reach: each is proved to do what a plain Lean function says. -/
import Derived.Test.YtennnaibnlmjlaaH0
import Derived.Test.YtennnaibnlmjlaaH9
import Derived.Test.YtennnaibnlmjlaaH12
namespace Go.Proofs.Ytennnaibnlmjlaa.H
open Go.RowKit Go.Proofs.YtennnaibnlmjlaaW.PrintWords Go.Proofs.YtennnaibnlmjlaaW.PrintLast Go.Proofs.YtennnaibnlmjlaaW.PrintMore
attribute [local go_sem] max2_int min2_int max_two min_two max_three min_three max_four min_four   -- for this text's walks alone
set_option linter.unusedVariables false
set_option linter.unusedSimpArgs false

/-! ### impl_solutions: function 57 -/
/-! ### impl.solutions and its literals: a list that is filled by a function value that calls itself -/
def impl_solutions.no (k : Nat) (b : List Int) (c : S55) : Option Bool := (impl_Clue_fits.f k c.f0 c.f1 c.f2 b).bind fun x => some (!x)
def impl_solutions.leaf (k : Nat) (cl : List S55) (b : List Int) : Option (List (List Int)) := (anyO_Clue (impl_solutions.no k b) cl).bind fun bad => some (if bad = true then [] else [b])
/-- The ages from 13 - n to 12, each behind b. -/
def impl_solutions.ages (rec : List Int → Option (List (List Int))) (b : List Int) : Nat → Option (List (List Int))
  | 0 => some []
  | n + 1 => (rec (b ++ [12 - (n : Int)])).bind fun x => (impl_solutions.ages rec b n).bind fun y => some (x ++ y)
def impl_solutions.put (k : Nat) (cl : List S55) : Nat → List Int → Option (List (List Int))
  | 0, b => impl_solutions.leaf k cl b
  | n + 1, b => impl_solutions.ages (impl_solutions.put k cl n) b 12
def impl_solutions.f (k : Nat) (a0 : Int) (l1 : List S55) : Option (List (List Int)) := if 0 ≤ a0 ∧ a0 ≤ 3 then ((impl_solutions.put k l1 a0.toNat []).bind fun r => if r.length ≤ 1000000 then some r else none) else none
theorem impl_solutions.ages_mono {g g' : List Int → Option (List (List Int))} (h : ∀ b, LeO (g b) (g' b)) (b : List Int) : ∀ n, LeO (impl_solutions.ages g b n) (impl_solutions.ages g' b n)
  | 0 => LeO.refl _
  | n + 1 => by
    unfold impl_solutions.ages
    exact LeO.bind (h _) (fun _ => LeO.bind (impl_solutions.ages_mono h b n) (fun _ => LeO.refl _))
theorem sol_any_mono {q q' : S55 → Option Bool} (h : ∀ c, LeO (q c) (q' c)) : ∀ l, LeO (anyO_Clue q l) (anyO_Clue q' l)
  | [] => LeO.refl _
  | c :: t => by
    unfold anyO_Clue
    exact LeO.bind (h c) (fun b => LeO.ite (LeO.refl _) (sol_any_mono h t))
theorem impl_solutions.put_mono (k : Nat) (cl : List S55) : ∀ n b, LeO (impl_solutions.put k cl n b) (impl_solutions.put (k + 1) cl n b)
  | 0, b => by
    unfold impl_solutions.put impl_solutions.leaf
    exact LeO.bind (sol_any_mono (fun c => LeO.bind (impl_Clue_fits.mono _ _ _ _ _) (fun _ => LeO.refl _)) cl) (fun _ => LeO.refl _)
  | n + 1, b => by
    unfold impl_solutions.put
    exact impl_solutions.ages_mono (impl_solutions.put_mono k cl n) b 12
theorem impl_solutions.mono : ∀ a0 a1 k, LeO (impl_solutions.f k a0 a1) (impl_solutions.f (k + 1) a0 a1) := by
  intro a0 a1 k
  unfold impl_solutions.f
  exact LeO.ite (LeO.bind (impl_solutions.put_mono k a1 _ _) (fun _ => LeO.refl _)) (LeO.refl _)
theorem sol_infoI : (Try.prog.info? 3).map (fun i => (i.zero, i.size, i.bytes)) = some (some (.int .i64 0), 1, 8) := by kernel_rfl
theorem sol_infoS : (Try.prog.info? 22).map (fun i => (i.zero, i.size, i.bytes)) = some (some (.slice none 0 0), 1, 24) := by kernel_rfl
/-- One goes on: all blocks but g and the list's own stay, and the list's own is as before or new. -/
def SolStep (W : World) (v : Value) (g : Nat) (W' : World) (v' : Value) : Prop := KeepBut W W' g v.ownBlock ∧ (v'.ownBlock = v.ownBlock ∨ ∃ b, v'.ownBlock = some b ∧ W.heap.size ≤ b)
theorem SolStep.refl (W : World) (v : Value) (g : Nat) : SolStep W v g W v := ⟨KeepBut.refl _ _ _, Or.inl rfl⟩
theorem SolStep.below {W W' : World} (h : Below W.heap.size W W') (v : Value) (g : Nat) : SolStep W v g W' v := ⟨KeepBut.of_below h _ _, Or.inl rfl⟩
theorem SolStep.trans {W W1 W2 : World} {v v1 v2 : Value} {g : Nat} (h : SolStep W v g W1 v1) (h' : SolStep W1 v1 g W2 v2) : SolStep W v g W2 v2 := by
  obtain ⟨⟨hs, hk⟩, hv⟩ := h
  obtain ⟨⟨hs', hk'⟩, hv'⟩ := h'
  refine ⟨⟨Nat.le_trans hs hs', fun i hi hg hr => ?_⟩, ?_⟩
  · have h1 := hk i hi hg hr
    have h2 : some i ≠ v1.ownBlock := by
      rcases hv with e | ⟨b, e, hb⟩
      · rw [e]; exact hr
      · rw [e]; intro h3; injection h3 with h3; omega
    exact (hk' i (by omega) hg h2).trans h1
  · rcases hv' with e | ⟨b, e, hb⟩
    · rw [e]; exact hv
    · exact Or.inr ⟨b, e, by omega⟩
theorem SolStep.kept {W W' : World} {v v' : Value} {g i : Nat} {o : Obj} (h : SolStep W v g W' v') (ho : W.heap[i]? = some o) (hg : i ≠ g) (hr : some i ≠ v.ownBlock) : W'.heap[i]? = some o := (h.1.2 i (blk_lt ho) hg hr).trans ho
theorem SolStep.apart {W W' : World} {v v' : Value} {g i : Nat} {o : Obj} (h : SolStep W v g W' v') (ho : W.heap[i]? = some o) (hr : some i ≠ v.ownBlock) : some i ≠ v'.ownBlock := by
  have hi := blk_lt ho
  rcases h.2 with e | ⟨b, e, hb⟩
  · rw [e]; exact hr
  · rw [e]; intro h3; injection h3 with h3; omega
theorem SolStep.row {W W' : World} {v v' : Value} {g t : Nat} {c : Array Value} {base : Nat} {okp : Nat → Prop} {u : Value} {ys : List Int} {xs : List (List Int)} {okv : Nat → Prop} (h : SolStep W v g W' v') (hr : Kd.R (Kd.int .i64) 3 W base okp u ys) (hG : W.heap[g]? = some (.cells c t (0, 0))) (ht : 3 ≠ t) (hv : Kd.S (Kd.slice 3 (Kd.int .i64)) 22 W base okv v xs) : Kd.R (Kd.int .i64) 3 W' base okp u ys :=
  Kd.R_mono (Kd.R_move (Kd.R_bound hr) (fun k hk' => by
    obtain ⟨_, _, hlt, q, hq, cells, hc⟩ := hk'
    have hq3 : q = 3 := by simpa [Kd.int, Kd.scalar] using hq
    subst hq3
    exact h.1.2 k hlt (blk_ne hc hG ht) (Kd.S_ne hv hc (by decide)))) (fun _ hk' => hk'.1)
/-- What a call of the literal leaves. -/
def impl_solutions.Left (w0 W : World) (g : Nat) (v : Value) (xs : List (List Int)) (e : Ending) (W' : World) : Prop := e = .returned (.tuple #[]) ∧ ∃ v', W'.heap[g]? = some (.cells #[v'] 40 (0, 0)) ∧ Kd.S (Kd.slice 3 (Kd.int .i64)) 22 W' w0.heap.size (fun _ => True) v' xs ∧ Below w0.heap.size w0 W' ∧ SolStep W v g W' v'
set_option maxHeartbeats 1000000 in
theorem impl_solutions.lit (k : Nat) (b : List Int) (B : Nat) (Ab : Option Addr) (cb : Nat) (W : World) (c : S55) (x : Bool) (hB : W.heap[B]? = some (.cells #[.slice Ab b.length cb] 22 (0, 0))) (hr : Kd.C (Kd.int .i64) W Ab b.length b) (hc : b.length ≤ cb) (h : impl_solutions.no k b c = some x) :
    Calls Try.prog 80 #[.agg #[.int .i64 c.f0, .int .i64 c.f1, .int .i64 c.f2], .pointer (some ⟨B, 0, none⟩)] W fun e w' => e = .returned (.bool x) ∧ Below W.heap.size W w' := by
  obtain ⟨b1, h1, h2⟩ := Option.bind_eq_some_iff.mp h
  obtain rfl := Option.some.inj h2
  obtain ⟨c0, c1, c2⟩ := c
  have hcell : W.cell? ⟨B, 0, none⟩ = some (.slice Ab b.length cb) := (blk_cell hB 0).trans rfl
  have hlt : B < W.heap.size := blk_lt hB
  have HC := Aside0.mk (impl_Clue_fits.calls k c0 c1 c2 Ab cb b b1 (W.alloc (.cells #[.int .i64 c0, .int .i64 c1, .int .i64 c2] 55)) (Kd.C_alloc hr _) hc h1)
  have hu := Try.underlying55
  clear h h1 h2 hB hr hc
  go_enter Try.func80, Try.ntmps80
  go_wp2_with fail
  refine HC.out.mono ?_
  rintro e w' ⟨rfl, hb⟩
  go_wp2
  go_ret
  exact ⟨rfl, below_then (below_alloc (Below.refl _ _) _) (by simp) hb⟩
/-- The boxes of what the literal has caught. -/
def SolBoxes (W : World) (p : Int) (A1 : Option Addr) (c1 n1 : Nat) (g2 g6 g3 g5 : Nat) : Prop := W.heap[g2]? = some (.cells #[.int .i64 p] 3 (0, 0)) ∧ W.heap[g6]? = some (.cells #[.func (.func 79) #[] #[.pointer (some ⟨g2, 0, none⟩), .pointer (some ⟨g6, 0, none⟩), .pointer (some ⟨g3, 0, none⟩), .pointer (some ⟨g5, 0, none⟩)]] 84 (0, 0)) ∧ W.heap[g3]? = some (.cells #[.slice A1 n1 c1] 28 (0, 0))
theorem SolBoxes.below {W W' : World} {p : Int} {A1 : Option Addr} {c1 n1 g2 g6 g3 g5 : Nat} (h : SolBoxes W p A1 c1 n1 g2 g6 g3 g5) (hb : Below W.heap.size W W') : SolBoxes W' p A1 c1 n1 g2 g6 g3 g5 := ⟨blk_below h.1 hb, blk_below h.2.1 hb, blk_below h.2.2 hb⟩
theorem SolBoxes.step {W W' : World} {p : Int} {A1 : Option Addr} {c1 n1 g2 g6 g3 g5 : Nat} {v v' u : Value} {base : Nat} {okv : Nat → Prop} {xs : List (List Int)} (h : SolBoxes W p A1 c1 n1 g2 g6 g3 g5) (hs : SolStep W v g5 W' v') (hG : W.heap[g5]? = some (.cells #[u] 40 (0, 0))) (hv : Kd.S (Kd.slice 3 (Kd.int .i64)) 22 W base okv v xs) : SolBoxes W' p A1 c1 n1 g2 g6 g3 g5 :=
  ⟨hs.kept h.1 (blk_ne h.1 hG (by decide)) (Kd.S_ne hv h.1 (by decide)), hs.kept h.2.1 (blk_ne h.2.1 hG (by decide)) (Kd.S_ne hv h.2.1 (by decide)), hs.kept h.2.2 (blk_ne h.2.2 hG (by decide)) (Kd.S_ne hv h.2.2 (by decide))⟩
set_option maxHeartbeats 4000000 in
set_option maxRecDepth 100000 in
theorem impl_solutions.leaf_calls (kk : Nat) (A1 : Option Addr) (c1 : Nat) (cl : List S55) (w0 : World) (hcl : Kd.C k55 w0 A1 cl.length cl) (hc1 : cl.length ≤ c1) (p : Int) (g2 g6 g3 g5 : Nat)
    (W : World) (v : Value) (Ab : Option Addr) (cb : Nat) (xs : List (List Int)) (bl : List Int) (r : List (List Int)) (hp : (bl.length : Int) = p) (hX : SolBoxes W p A1 c1 cl.length g2 g6 g3 g5) (hB : Below w0.heap.size w0 W) (hg : w0.heap.size ≤ g5) (hG : W.heap[g5]? = some (.cells #[v] 40 (0, 0))) (hS : Kd.S (Kd.slice 3 (Kd.int .i64)) 22 W w0.heap.size (fun k => some k ≠ (Value.slice Ab bl.length cb).ownBlock) v xs) (hR : Kd.R (Kd.int .i64) 3 W w0.heap.size (fun _ => True) (.slice Ab bl.length cb) bl) (hlen : xs.length + r.length ≤ 1000000) (hf : impl_solutions.leaf kk cl bl = some r) :
    Calls Try.prog 79 #[.slice Ab bl.length cb, .pointer (some ⟨g2, 0, none⟩), .pointer (some ⟨g6, 0, none⟩), .pointer (some ⟨g3, 0, none⟩), .pointer (some ⟨g5, 0, none⟩)] W (impl_solutions.Left w0 W g5 v (xs ++ r)) := by
  obtain ⟨bad, hq, hr⟩ := Option.bind_eq_some_iff.mp hf
  replace hr := (Option.some.inj hr).symm
  have eg : ∀ args w, (callFunc 80 args).run Try.prog w = .ok (.enter 80 args) w := enters_of Try.func80 (by kernel_rfl) rfl
  obtain ⟨hX2, hX6, hX3⟩ := hX
  have hb5 : (W.alloc (.cells #[.slice Ab bl.length cb] 22)).heap[W.heap.size]? = some (.cells #[.slice Ab bl.length cb] 22 (0, 0)) := heap_alloc_new W _
  have HRb := Kd.R_reads' hR
  have HC := Aside0.mk (containsFunc_T55 80 #[.pointer (some ⟨W.heap.size, 0, none⟩)] (impl_solutions.no kk bl) eg A1 c1 cl bad (W.alloc (.cells #[.slice Ab bl.length cb] 22)) (Kd.C_alloc (Kd.C_below hcl hB) _) (fun W' x b hb hx => impl_solutions.lit kk bl W.heap.size Ab cb W' x b (blk_below hb5 hb) (Kd.C_below (Kd.C_alloc HRb.2.2 _) hb) HRb.2.1 hx) hq)
  have hz2 : (W.alloc (.cells #[.slice Ab bl.length cb] 22)).cell? ⟨g2, 0, none⟩ = some (.int .i64 p) := (blk_cell (blk_alloc hX2 _) 0).trans rfl
  have hz3 : (W.alloc (.cells #[.slice Ab bl.length cb] 22)).cell? ⟨g3, 0, none⟩ = some (.slice A1 cl.length c1) := (blk_cell (blk_alloc hX3 _) 0).trans rfl
  have hz5 : (W.alloc (.cells #[.slice Ab bl.length cb] 22)).cell? ⟨W.heap.size, 0, none⟩ = some (.slice Ab bl.length cb) := (blk_cell hb5 0).trans rfl
  have hnlt : ¬ (bl.length : Int) < p := by omega
  have HB5 := Aside0.mk hb5
  have HR := Aside0.mk hR
  have HS := Aside0.mk hS
  have HG := Aside0.mk hG
  have HB := Aside0.mk hB
  have Hg := Aside0.mk hg
  have HRR := Aside0.mk hr
  have HL := Aside0.mk hlen
  clear hX2 hX6 hX3 hb5 HRb hcl hR hS hG hB hg hq hr hlen hf hp
  go_enter Try.func79, Try.ntmps79
  go_wp2_with fail
  refine HC.out.mono ?_
  rintro e w' ⟨rfl, hb⟩
  have HBr := Aside0.mk (below_then (below_alloc (Below.refl W.heap.size W) (.cells #[.slice Ab bl.length cb] 22)) (below_alloc (Below.refl W.heap.size W) (.cells #[.slice Ab bl.length cb] 22)).size hb)
  have HB6 := Aside0.mk (blk_below HB5.out hb)
  clear hb HC
  cases bad with
  | true =>
    have hr2 : r = [] := by rw [HRR.out, if_pos rfl]
    have H4 := Aside0.mk hr2
    clear hr2
    go_wp2
    ((try simp only [Exit.inBlock, Exit.then]); refine bodyPost_end (results_none rfl _ _ _) rfl ?_)
    refine ⟨rfl, v, blk_below HG.out HBr.out, ?_, below_step HB.out HBr.out, SolStep.below HBr.out _ _⟩
    rw [H4.out, List.append_nil]
    exact Kd.S_mono (Kd.S_below HS.out HBr.out) (fun _ _ => trivial)
  | false =>
    have hr2 : r = [bl] := by rw [HRR.out, if_neg (by decide)]
    have H4 := Aside0.mk hr2
    clear hr2
    have HG2 := Aside0.mk (blk_below HG.out HBr.out)
    have HS2 := Aside0.mk (Kd.S_below HS.out HBr.out)
    have HR2 := Aside0.mk (Kd.R_below HR.out HBr.out)
    obtain ⟨Av, cv, ev⟩ := Kd.S_slice HS2.out
    subst ev
    have hcz : w'.cell? ⟨g5, 0, none⟩ = some (.slice Av xs.length cv) := (blk_cell HG2.out 0).trans rfl
    have hfz := blk_frozen HG2.out 0
    have hcy : w'.cell? ⟨W.heap.size, 0, none⟩ = some (.slice Ab bl.length cb) := (blk_cell HB6.out 0).trans rfl
    go_wp2_with ((with_reducible refine gate_builtin (b := .append) (xs := #[.tmp 26, .tmp 28]) rfl ?_); at_builtin; refine Kd.S_append (Kd.slice 3 (Kd.int .i64)) (w0 := w0) w0.heap.size rfl (.tmp 26) (.tmp 28) 40 22 (.slice none 0 0) 24 rfl Try.underlying40 sol_infoS rfl (by decide) (by omega) (.slice Av xs.length cv) xs bl [.slice Ab bl.length cb] (fun _ => True) (fun k_ => some k_ = (Value.slice Ab bl.length cb).ownBlock) rfl rfl (Kd.M_row (Kd.R_tight rfl HR2.out)) (fun k_ hk_ => ⟨trivial, ((Kd.R_apart' HR2.out (Kd.S_typed HS2.out) (by decide)).1 k_ hk_.symm).2⟩) (fun _ _ => trivial) (Kd.S_mono HS2.out (fun k_ hk_ => ⟨trivial, fun e_ => hk_ e_⟩)) (below_step HB.out HBr.out) (below_size (below_step HB.out HBr.out)) (by have := HL.out; rw [H4.out] at this; simp at this; omega) ?_; intro v1 w1 ho hb hgr hat; obtain ⟨Av1, cv1, ev1⟩ := Kd.S_slice ho; subst ev1; have HG3 := Aside0.mk (blk_grown HG2.out hgr (Kd.S_ne HS2.out HG2.out (by decide))); have hcz3 : w1.cell? ⟨g5, 0, none⟩ = some (.slice Av xs.length cv) := (blk_cell HG3.out 0).trans rfl; have hfz3 := blk_frozen HG3.out 0; have HO := Aside0.mk ho; have HB3 := Aside0.mk hb; have HK3 := Aside0.mk (show SolStep w' (.slice Av xs.length cv) g5 w1 _ from ⟨KeepBut.of_grown hgr _, hat⟩); clear ho hb hgr hat)
    ((try simp only [Exit.inBlock, Exit.then]); refine bodyPost_end (results_none rfl _ _ _) rfl ?_)
    rw [H4.out]
    have HO2 : Kd.S (Kd.slice 3 (Kd.int .i64)) 22 w1 w0.heap.size (fun _ => True) (.slice Av1 (xs.length + 1) cv1) (xs ++ [bl]) := by
      have e_ : (xs ++ [bl]).length = xs.length + 1 := by simp
      rw [← e_]; exact HO.out
    have HK4 := (SolStep.below HBr.out (.slice Av xs.length cv) g5).trans HK3.out
    have e_ : (xs ++ [bl]).length = xs.length + 1 := by simp
    rw [e_] at HK4
    exact ⟨rfl, _, blk_put HG3.out 0 _ rfl, Kd.S_set HO2 HG3.out (by decide) 0 _, below_set HB3.out Hg.out, ⟨KeepBut.set_ HK4.1 0 _, HK4.2⟩⟩
theorem sol_one {W : World} {g : Nat} {a : Int} (h : W.heap[g]? = some (.cells #[.int .i64 a] 3 (0, 0))) : Kd.C (Kd.int .i64) W (some ⟨g, 0, none⟩) 1 [a] := by
  refine ⟨rfl, by decide, fun _ => ⟨_, rfl, fun j p hj => ⟨[.int .i64 p], rfl, rfl, fun i u hi => ?_⟩⟩⟩
  have hj0 : j = 0 := by
    have := (List.getElem?_eq_some_iff.mp hj).1
    simp at this
    omega
  subst hj0
  have hp : a = p := by simpa using hj
  subst hp
  have hi0 : i = 0 := by
    have := (List.getElem?_eq_some_iff.mp hi).1
    simp at this
    omega
  subst hi0
  have hu : Value.int .i64 a = u := by simpa using hi
  subst hu
  exact (blk_cell h 0).trans rfl
set_option maxHeartbeats 4000000 in
set_option maxRecDepth 100000 in
theorem impl_solutions.put_calls (kk : Nat) (A1 : Option Addr) (c1 : Nat) (cl : List S55) (w0 : World) (hcl : Kd.C k55 w0 A1 cl.length cl) (hc1 : cl.length ≤ c1) (p : Int) (g2 g6 g3 g5 : Nat) (hg : w0.heap.size ≤ g5) :
    ∀ (n : Nat) (W : World) (v : Value) (Ab : Option Addr) (cb : Nat) (xs : List (List Int)) (bl : List Int) (r : List (List Int)), (bl.length : Int) + n = p → bl.length + n ≤ 1000 → SolBoxes W p A1 c1 cl.length g2 g6 g3 g5 → Below w0.heap.size w0 W → W.heap[g5]? = some (.cells #[v] 40 (0, 0)) → Kd.S (Kd.slice 3 (Kd.int .i64)) 22 W w0.heap.size (fun k => some k ≠ (Value.slice Ab bl.length cb).ownBlock) v xs → Kd.R (Kd.int .i64) 3 W w0.heap.size (fun _ => True) (.slice Ab bl.length cb) bl → xs.length + r.length ≤ 1000000 → impl_solutions.put kk cl n bl = some r →
    Calls Try.prog 79 #[.slice Ab bl.length cb, .pointer (some ⟨g2, 0, none⟩), .pointer (some ⟨g6, 0, none⟩), .pointer (some ⟨g3, 0, none⟩), .pointer (some ⟨g5, 0, none⟩)] W (impl_solutions.Left w0 W g5 v (xs ++ r)) := by
  intro n
  induction n with
  | zero =>
    intro W v Ab cb xs bl r hp _ hX hB hG hS hR hlen hf
    exact impl_solutions.leaf_calls kk A1 c1 cl w0 hcl hc1 p g2 g6 g3 g5 W v Ab cb xs bl r (by omega) hX hB hg hG hS hR hlen hf
  | succ n ih =>
    intro W v Ab cb xs bl r hp hbn hX hB hG hS hR hlen hf
    have eg : ∀ args w, (callFunc 79 args).run Try.prog w = .ok (.enter 79 args) w := enters_of Try.func79 (by kernel_rfl) rfl
    have hb5 : (W.alloc (.cells #[.slice Ab bl.length cb] 22)).heap[W.heap.size]? = some (.cells #[.slice Ab bl.length cb] 22 (0, 0)) := heap_alloc_new W _
    have hz2 : (W.alloc (.cells #[.slice Ab bl.length cb] 22)).cell? ⟨g2, 0, none⟩ = some (.int .i64 p) := (blk_cell (blk_alloc hX.1 _) 0).trans rfl
    have hz5 : (W.alloc (.cells #[.slice Ab bl.length cb] 22)).cell? ⟨W.heap.size, 0, none⟩ = some (.slice Ab bl.length cb) := (blk_cell hb5 0).trans rfl
    have hlt : (bl.length : Int) < p := by omega
    replace hf : impl_solutions.ages (impl_solutions.put kk cl n) bl 12 = some r := hf
    have HIH := Aside0.mk ih
    have HRb := Aside0.mk (Kd.R_reads' hR).2
    have HX := Aside0.mk hX
    have HR := Aside0.mk hR
    have HS := Aside0.mk hS
    have HG := Aside0.mk hG
    have HB := Aside0.mk hB
    have Hg := Aside0.mk hg
    have HL := Aside0.mk hlen
    have HBN := Aside0.mk hbn
    have HP := Aside0.mk hp
    have HF := Aside0.mk hf
    have HB5 := Aside0.mk hb5
    have HN5 := Aside0.mk (show some W.heap.size ≠ v.ownBlock from fun e => by have := Kd.S_lt hS _ e.symm; omega)
    clear hcl ih hR hS hG hB hg hlen hf hbn hp hX hb5
    go_enter Try.func79, Try.ntmps79
    go_wp2
    go_loopg [6] 12 (fun gg s6 wr => ∃ (j : Nat) (v' : Value) (ys r' : List (List Int)), j ≤ gg ∧ j ≤ 12 ∧ s6 = .int .i64 (13 - (j : Int)) ∧ Aside0 (impl_solutions.ages (impl_solutions.put kk cl n) bl j = some r' ∧ ys ++ r' = xs ++ r) ∧ Aside0 (wr.heap[g5]? = some (.cells #[v'] 40 (0, 0))) ∧ Aside0 (Kd.S (Kd.slice 3 (Kd.int .i64)) 22 wr w0.heap.size (fun _ => True) v' ys) ∧ Aside0 (Below w0.heap.size w0 wr) ∧ Aside0 (SolStep W v g5 wr v') ∧ Aside0 (wr.heap[W.heap.size]? = some (.cells #[.slice Ab bl.length cb] 22 (0, 0)) ∧ some W.heap.size ≠ v'.ownBlock))
    case atStart => exact ⟨12, v, xs, r, Nat.le_refl _, Nat.le_refl _, by simp, ⟨HF.out, rfl⟩, ⟨blk_alloc HG.out _⟩, ⟨Kd.S_alloc (Kd.S_mono HS.out (fun _ _ => trivial)) _⟩, ⟨below_alloc HB.out _⟩, ⟨SolStep.below (below_alloc (Below.refl _ _) _) _ _⟩, ⟨HB5.out, HN5.out⟩⟩
    case round =>
      clear hz2 hz5
      obtain ⟨j, v', ys, r', hjg, hj12, rfl, HA, HGr, HSr, HBr, HKr, HQr⟩ := hrel
      cases j with
      | zero =>
        have e0 : r' = [] := by have := HA.out.1; unfold impl_solutions.ages at this; exact (Option.some.inj this).symm
        have e1 : ys = xs ++ r := by have := HA.out.2; rw [e0, List.append_nil] at this; exact this
        have E1 := Aside0.mk e1
        clear e0 e1
        go_wp2
        ((try simp only [Exit.inBlock, Exit.then]); refine bodyPost_end (results_none rfl _ _ _) rfl ?_)
        exact ⟨rfl, v', HGr.out, by rw [← E1.out]; exact HSr.out, HBr.out, HKr.out⟩
      | succ j =>
        obtain ⟨x, hx, y0, hy0, hr'⟩ : ∃ x, impl_solutions.put kk cl n (bl ++ [12 - (j : Int)]) = some x ∧ ∃ y0, impl_solutions.ages (impl_solutions.put kk cl n) bl j = some y0 ∧ r' = x ++ y0 := by
          have h := HA.out.1
          unfold impl_solutions.ages at h
          obtain ⟨x, hx, h⟩ := Option.bind_eq_some_iff.mp h
          obtain ⟨y0, hy0, h⟩ := Option.bind_eq_some_iff.mp h
          exact ⟨x, hx, y0, hy0, (Option.some.inj h).symm⟩
        obtain ⟨y, hy⟩ : ∃ y, y = bl ++ [12 - (j : Int)] := ⟨_, rfl⟩
        rw [← hy] at hx
        have hylen : y.length = bl.length + 1 := by rw [hy]; simp
        have hxl : ys.length + x.length ≤ 1000000 := by
          have h1 := congrArg List.length HA.out.2
          have h2 := HL.out
          rw [hr'] at h1
          simp only [List.length_append] at h1
          omega
        have hyl : y.length + n ≤ 1000 := by have := HBN.out; omega
        have hyp : (y.length : Int) + n = p := by have := HP.out; omega
        have hnext : ys ++ x ++ y0 = xs ++ r := by rw [List.append_assoc, ← hr']; exact HA.out.2
        have HXX := Aside0.mk hx
        have HY0 := Aside0.mk hy0
        have HY := Aside0.mk hy
        have HXL := Aside0.mk hxl
        have HYL := Aside0.mk hyl
        have HYP := Aside0.mk hyp
        have HNX := Aside0.mk hnext
        have HBL := Aside0.mk (show bl.length ≤ 1000 by have := HBN.out; omega)
        clear hx hy0 hy hxl hyl hyp hnext hr' hylen
        have ha : (13 : Int) - ((j + 1 : Nat) : Int) = 12 - (j : Int) := by omega
        have hle : (12 : Int) - (j : Int) ≤ 12 := by omega
        rw [ha]
        have HXr := Aside0.mk (SolBoxes.step HX.out HKr.out HG.out HS.out)
        have HRr := Aside0.mk (SolStep.row HKr.out HR.out HG.out (by decide) HS.out)
        have hcz6 : wr.cell? ⟨g6, 0, none⟩ = some (.func (.func 79) #[] #[.pointer (some ⟨g2, 0, none⟩), .pointer (some ⟨g6, 0, none⟩), .pointer (some ⟨g3, 0, none⟩), .pointer (some ⟨g5, 0, none⟩)]) := (blk_cell HXr.out.2.1 0).trans rfl
        have hcz5 : wr.cell? ⟨W.heap.size, 0, none⟩ = some (.slice Ab bl.length cb) := (blk_cell HQr.out.1 0).trans rfl
        have HCr := Aside0.mk (Kd.R_reads' HRr.out).2.2
        have HfC := Aside0.mk (show slices_Clone_int_int.f bl = some bl by have := HBL.out; unfold slices_Clone_int_int.f; rw [Option.bind_some, if_pos (by simp; omega)]; simp)
        go_upto_region 5 with (fail)
        have QB := Aside0.mk (show (wr.heap[g6]? = some (.cells #[.func (.func 79) #[] #[.pointer (some ⟨g2, 0, none⟩), .pointer (some ⟨g6, 0, none⟩), .pointer (some ⟨g3, 0, none⟩), .pointer (some ⟨g5, 0, none⟩)]] 84 (0, 0)) ∧ wr.heap[W.heap.size]? = some (.cells #[.slice Ab bl.length cb] 22 (0, 0))) from ⟨HXr.out.2.1, HQr.out.1⟩)
        have Q0 := QB
        go_region_held3 (fun w' => w'.cell? ⟨g6, 0, none⟩ = some (.func (.func 79) #[] #[.pointer (some ⟨g2, 0, none⟩), .pointer (some ⟨g6, 0, none⟩), .pointer (some ⟨g3, 0, none⟩), .pointer (some ⟨g5, 0, none⟩)]) ∧ w'.cell? ⟨W.heap.size, 0, none⟩ = some (.slice Ab bl.length cb)) (first | exact ⟨hcz6, hcz5⟩ | exact ⟨(blk_cell QB.out.1 0).trans rfl, (blk_cell QB.out.2 0).trans rfl⟩ | exact ⟨(blk_cell (blk_alloc QB.out.1 _) 0).trans rfl, (blk_cell (blk_alloc QB.out.2 _) 0).trans rfl⟩) (first | (go_at_call 55; refine (slices_Clone_int_int.calls Ab cb bl bl _ ?s1 HRb.out.1 HfC.out).mono ?_; (case s1 => (first | exact HCr.out | exact Kd.C_drew HCr.out | exact Kd.C_alloc HCr.out _ | exact Kd.C_alloc (Kd.C_drew HCr.out) _ | exact Kd.C_drew (Kd.C_alloc HCr.out _))); rintro e w1 ⟨v1, rfl, ho1, hb1⟩; obtain ⟨A1_, c1_, ev1⟩ := Kd.R_slice ho1; subst ev1; have HB1 := Aside0.mk (show Below wr.heap.size wr w1 from ⟨hb1.os, hb1.tape, hb1.output, hb1.size, hb1.block⟩); have HO1 := Aside0.mk (show Kd.R (Kd.int .i64) 3 w1 wr.heap.size (fun _ => True) (.slice A1_ bl.length c1_) bl from ho1); have QN := Aside0.mk (show (w1.heap[g6]? = some (.cells #[.func (.func 79) #[] #[.pointer (some ⟨g2, 0, none⟩), .pointer (some ⟨g6, 0, none⟩), .pointer (some ⟨g3, 0, none⟩), .pointer (some ⟨g5, 0, none⟩)]] 84 (0, 0)) ∧ w1.heap[W.heap.size]? = some (.cells #[.slice Ab bl.length cb] 22 (0, 0))) from ⟨blk_below Q0.out.1 HB1.out, blk_below Q0.out.2 HB1.out⟩); clear QB; have QB := QN; clear QN ho1 hb1)  | (go_at_call 55; refine (slices_Clone_int_int.calls Ab cb bl bl _ ?s1 HRb.out.1 HfC.out).mono ?_; (case s1 => (first | exact HCr.out | exact Kd.C_drew HCr.out | exact Kd.C_alloc HCr.out _ | exact Kd.C_alloc (Kd.C_drew HCr.out) _ | exact Kd.C_drew (Kd.C_alloc HCr.out _))); rintro e w1 ⟨v1, rfl, ho1, hb1⟩; obtain ⟨A1_, c1_, ev1⟩ := Kd.R_slice ho1; subst ev1; have hb2 := (show Below (wr.alloc (.cells #[.int .i64 (12 - (j : Int))] 3)).heap.size (wr.alloc (.cells #[.int .i64 (12 - (j : Int))] 3)) w1 from ⟨hb1.os, hb1.tape, hb1.output, hb1.size, hb1.block⟩); have HLIT := Aside0.mk (sol_one (blk_below (show (wr.alloc (.cells #[.int .i64 (12 - (j : Int))] 3)).heap[wr.heap.size]? = some (.cells #[.int .i64 (12 - (j : Int))] 3 (0, 0)) from heap_alloc_new wr _) hb2)); have HB1 := Aside0.mk (show Below wr.heap.size wr w1 from below_then (below_alloc (Below.refl wr.heap.size wr) (.cells #[.int .i64 (12 - (j : Int))] 3)) (below_alloc (Below.refl wr.heap.size wr) (.cells #[.int .i64 (12 - (j : Int))] 3)).size hb2); have HO1 := Aside0.mk (show Kd.R (Kd.int .i64) 3 w1 wr.heap.size (fun _ => True) (.slice A1_ bl.length c1_) bl from Kd.R_lower ho1 (below_alloc (Below.refl wr.heap.size wr) (.cells #[.int .i64 (12 - (j : Int))] 3)).size); clear hb2; have QN := Aside0.mk (show (w1.heap[g6]? = some (.cells #[.func (.func 79) #[] #[.pointer (some ⟨g2, 0, none⟩), .pointer (some ⟨g6, 0, none⟩), .pointer (some ⟨g3, 0, none⟩), .pointer (some ⟨g5, 0, none⟩)]] 84 (0, 0)) ∧ w1.heap[W.heap.size]? = some (.cells #[.slice Ab bl.length cb] 22 (0, 0))) from ⟨blk_below Q0.out.1 HB1.out, blk_below Q0.out.2 HB1.out⟩); clear QB; have QB := QN; clear QN ho1 hb1)  | (refine Kd.R_append_step (Kd.int .i64) (w0 := wr) wr.heap.size (by rfl) (.tmp 17) (.tmp 19) 22 3 (.int .i64 0) 8 rfl Try.underlying22 sol_infoI rfl (by decide) (by omega) (.slice A1_ bl.length c1_) bl (12 - (j : Int)) [.int .i64 (12 - (j : Int))] (fun _ => True) (fun _ => False) rfl rfl rfl (fun _ hk => hk.elim) (fun _ _ => trivial) HO1.out HB1.out (below_size HB1.out) (by have := HBL.out; omega) ?_; intro v3 w3 ho hb hgr hat; rw [← HY.out] at ho; obtain ⟨A3_, c3_, ev3⟩ := Kd.R_slice ho; subst ev3; have HO3 := Aside0.mk ho; have HB3 := Aside0.mk hb; have QN := Aside0.mk (show (w3.heap[g6]? = some (.cells #[.func (.func 79) #[] #[.pointer (some ⟨g2, 0, none⟩), .pointer (some ⟨g6, 0, none⟩), .pointer (some ⟨g3, 0, none⟩), .pointer (some ⟨g5, 0, none⟩)]] 84 (0, 0)) ∧ w3.heap[W.heap.size]? = some (.cells #[.slice Ab bl.length cb] 22 (0, 0))) from ⟨blk_below Q0.out.1 HB3.out, blk_below Q0.out.2 HB3.out⟩); clear QB; have QB := QN; clear QN ho hb hgr hat)  | (refine Kd.R_append_rows_step (Kd.int .i64) (w0 := wr) wr.heap.size (by rfl) (.tmp 17) (.tmp 19) 22 3 (.int .i64 0) 8 rfl Try.underlying22 sol_infoI rfl (by decide) (by omega) (.slice A1_ bl.length c1_) bl [12 - (j : Int)] (some ⟨wr.heap.size, 0, none⟩) 1 1 (fun _ => True) (fun _ => False) rfl rfl HO1.out HLIT.out (fun _ _ h => h) (fun _ h => h.elim) (fun _ _ => trivial) HB1.out (below_size HB1.out) (by have := HBL.out; omega) ?_; intro v3 w3 ho hb hgr hat; rw [← HY.out] at ho; obtain ⟨A3_, c3_, ev3⟩ := Kd.R_slice ho; subst ev3; have HO3 := Aside0.mk ho; have HB3 := Aside0.mk hb; have QN := Aside0.mk (show (w3.heap[g6]? = some (.cells #[.func (.func 79) #[] #[.pointer (some ⟨g2, 0, none⟩), .pointer (some ⟨g6, 0, none⟩), .pointer (some ⟨g3, 0, none⟩), .pointer (some ⟨g5, 0, none⟩)]] 84 (0, 0)) ∧ w3.heap[W.heap.size]? = some (.cells #[.slice Ab bl.length cb] 22 (0, 0))) from ⟨blk_below Q0.out.1 HB3.out, blk_below Q0.out.2 HB3.out⟩); clear QB; have QB := QN; clear QN ho hb hgr hat)  | (go_at_fn 79; refine (HIH.out w3 v' A3_ c3_ ys y x HYP.out HYL.out (HXr.out.below HB3.out) (below_step HBr.out HB3.out) (blk_below HGr.out HB3.out) (Kd.S_mono (Kd.S_elder' (v := .slice A3_ y.length c3_) HSr.out (Kd.R_base HO3.out) HB3.out) (fun _ hk => hk.2)) (Kd.R_lower HO3.out (below_size HBr.out)) HXL.out HXX.out).mono ?_; rintro e w4 ⟨rfl, v4, hG4, hS4, hB4, hK4⟩; have HK4 := Aside0.mk ((SolStep.below HB3.out v' g5).trans hK4); have HG4 := Aside0.mk hG4; have HS4 := Aside0.mk hS4; have HB4 := Aside0.mk hB4; have QN := Aside0.mk (show (w4.heap[g6]? = some (.cells #[.func (.func 79) #[] #[.pointer (some ⟨g2, 0, none⟩), .pointer (some ⟨g6, 0, none⟩), .pointer (some ⟨g3, 0, none⟩), .pointer (some ⟨g5, 0, none⟩)]] 84 (0, 0)) ∧ w4.heap[W.heap.size]? = some (.cells #[.slice Ab bl.length cb] 22 (0, 0))) from ⟨(SolBoxes.step HXr.out HK4.out HGr.out HSr.out).2.1, HK4.out.kept Q0.out.2 (blk_ne Q0.out.2 HGr.out (by decide)) HQr.out.2⟩); clear QB; have QB := QN; clear QN hG4 hS4 hB4 hK4))
        all_goals
          go_wp2
          go_roundg j
          case measure => omega
          case rel => exact ⟨j, v4, ys ++ x, y0, Nat.le_refl _, by omega, by go_num, ⟨HY0.out, HNX.out⟩, HG4, HS4, HB4, ⟨HKr.out.trans HK4.out⟩, ⟨QB.out.2, HK4.out.apart Q0.out.2 HQr.out.2⟩⟩
set_option maxHeartbeats 4000000 in
set_option maxRecDepth 100000 in
theorem impl_solutions.calls (k : Nat) (a0 : Int) (A1 : Option Addr) (c1 : Nat) (l1 : List (S55)) (r : List (List Int)) (w : World) (hr1 : Kd.C k55 w A1 l1.length l1) (hc1 : l1.length ≤ c1) (h : impl_solutions.f k a0 l1 = some r) :
    Calls Try.prog 57 #[.int .i64 a0, .slice A1 l1.length c1] w fun e w' => ∃ v0_ : Value, e = .returned (v0_) ∧ Kd.S (Kd.slice 3 (Kd.int .i64)) 22 w' w.heap.size (fun _ => True) v0_ r ∧ Below w.heap.size w w' := by
  unfold impl_solutions.f at h
  by_cases hp : 0 ≤ a0 ∧ a0 ≤ 3
  · rw [if_pos hp] at h
    obtain ⟨x, hx, h⟩ := Option.bind_eq_some_iff.mp h
    by_cases hl : x.length ≤ 1000000
    · rw [if_pos hl] at h
      obtain rfl := Option.some.inj h
      obtain ⟨n, hn⟩ : ∃ n : Nat, a0 = (n : Int) := ⟨a0.toNat, by omega⟩
      subst hn
      rw [Int.toNat_natCast] at hx
      have hn3 : n ≤ 1000 := by omega
      have eg : ∀ args w, (callFunc 79 args).run Try.prog w = .ok (.enter 79 args) w := enters_of Try.func79 (by kernel_rfl) rfl
      have HC := Aside0.mk (fun (W : World) (g2 g6 g3 g5 : Nat) (v : Value) hg hX hB hG hS => impl_solutions.put_calls k A1 c1 l1 w hr1 hc1 (n : Int) g2 g6 g3 g5 hg n W v none 0 [] [] x (by simp) (by simp; exact hn3) hX hB hG hS (Kd.R_nil _ _ _ _ _) (by simp; exact hl) hx)
      clear hr1 hc1 hx hl hp h hn3
      go_enter Try.func57, Try.ntmps57
      go_wp2_with (first | ((with_reducible refine gate_dst (N := 7) rfl ?_); refine Kd.S_lit (Kd.slice 3 (Kd.int .i64)) (w0 := w) w.heap.size 22 ?hg (N := 7) ?hd (xs := ([] : List (List Int))) (inner := []) (ok := fun _ => True) (okp := fun _ => True) ?hr ?hp (fun _ hk => hk) trivial (below_alloc (below_alloc (Below.refl _ _) _) _) (by simp; omega) (by simp) ?_; (case hd => rfl); (case hg => rfl); (case hr => first | (go_simp; done) | (go_simp; rfl)); (case hp => exact (Reps.none _ _)); intro v w4 ho hb hgr hnew; obtain ⟨Av, cv, ev⟩ := Kd.S_slice ho; subst ev; have HO := Aside0.mk (show Kd.S (Kd.slice 3 (Kd.int .i64)) 22 w4 w.heap.size (fun _ => True) (.slice Av 0 cv) [] from ho); have HB4 := Aside0.mk hb; have HG4 := Aside0.mk hgr; clear ho hb hgr hnew) | ((with_reducible refine gate_dst (N := 6) rfl ?_); refine box_event ?hg (N := 6) ?hd (cs := #[.nilFunc]) (t := 84) ?hr ?_; (case hd => rfl); (case hg => rfl); (case hr => first | (go_simp; done) | (go_simp; rfl)); intro g6 hg6 w5 hbox hb5; have HG6 := Aside0.mk hg6; have HB5 := Aside0.mk hb5; have BK6 := Aside0.mk hbox; have hcz6 : w5.cell? ⟨g6, 0, none⟩ = some .nilFunc := (blk_cell hbox 0).trans rfl; have hfz6 := blk_frozen hbox 0; clear hg6 hb5 hbox))
      have hgs : w.heap.size ≤ w4.heap.size := below_size HB4.out
      have e6 : g6 = w4.heap.size + 1 := by rw [HG6.out]; simp
      have hk2 : w4.heap[w.heap.size]? = some (.cells #[.int .i64 (n : Int)] 3 (0, 0)) := blk_grown (blk_alloc (heap_alloc_new w _) _) HG4.out (by simp)
      have hk3 : w4.heap[w.heap.size + 1]? = some (.cells #[.slice A1 l1.length c1] 28 (0, 0)) := blk_grown (by have := heap_alloc_new (w.alloc (.cells #[.int .i64 (n : Int)] 3)) (.cells #[.slice A1 l1.length c1] 28); simpa using this) HG4.out (by simp)
      have hk5 : w5.heap[w4.heap.size]? = some (.cells #[.slice Av 0 cv] 40 (0, 0)) := blk_below (heap_alloc_new w4 _) HB5.out
      have hlt2 := blk_lt hk2
      have hlt3 := blk_lt hk3
      have hW := below_alloc (Below.refl w4.heap.size w4) (.cells #[.slice Av 0 cv] 40)
      have hB5 := below_then hW hW.size HB5.out
      have HCC := Aside0.mk (HC.out (w5.setCell ⟨g6, 0, none⟩ (.func (.func 79) #[] #[.pointer (some ⟨w.heap.size, 0, none⟩), .pointer (some ⟨g6, 0, none⟩), .pointer (some ⟨w.heap.size + 1, 0, none⟩), .pointer (some ⟨w4.heap.size, 0, none⟩)])) w.heap.size g6 (w.heap.size + 1) w4.heap.size (.slice Av 0 cv) hgs ⟨blk_far (blk_below hk2 hB5) (by show w.heap.size ≠ g6; omega) _, blk_put BK6.out 0 _ rfl, blk_far (blk_below hk3 hB5) (by show w.heap.size + 1 ≠ g6; omega) _⟩ (below_set (below_step HB4.out hB5) (by omega)) (blk_far hk5 (by show w4.heap.size ≠ g6; omega) _) (Kd.S_set (Kd.S_mono (Kd.S_below HO.out hB5) (fun k _ => by simp [Value.ownBlock])) BK6.out (by decide) 0 _))
      have hz6 : (w5.setCell ⟨g6, 0, none⟩ (.func (.func 79) #[] #[.pointer (some ⟨w.heap.size, 0, none⟩), .pointer (some ⟨g6, 0, none⟩), .pointer (some ⟨w.heap.size + 1, 0, none⟩), .pointer (some ⟨w4.heap.size, 0, none⟩)])).cell? ⟨g6, 0, none⟩ = some (.func (.func 79) #[] #[.pointer (some ⟨w.heap.size, 0, none⟩), .pointer (some ⟨g6, 0, none⟩), .pointer (some ⟨w.heap.size + 1, 0, none⟩), .pointer (some ⟨w4.heap.size, 0, none⟩)]) := (blk_cell (blk_put BK6.out 0 _ rfl) 0).trans rfl
      clear e6 hk2 hk3 hk5 hlt2 hlt3 hW hB5 hgs
      go_wp2_with fail
      refine HCC.out.mono ?_
      rintro e w7 ⟨rfl, v7, hG7, hS7, hB7, hK7⟩
      have HG7 := Aside0.mk hG7
      have HS7 := Aside0.mk hS7
      have HB7 := Aside0.mk hB7
      clear hG7 hS7 hB7 hK7
      obtain ⟨Aw, cw, ew⟩ := Kd.S_slice HS7.out
      subst ew
      have hcz7 : w7.cell? ⟨w4.heap.size, 0, none⟩ = some (.slice Aw ([] ++ x).length cw) := (blk_cell HG7.out 0).trans rfl
      have hfz7 := blk_frozen HG7.out 0
      go_wp2
      go_ret
      exact ⟨_, rfl, HS7.out, HB7.out⟩
    · rw [if_neg hl] at h
      cases h
  · rw [if_neg hp] at h
    cases h

/-! ### impl_Clue_61: function 61 -/
def impl_Clue_61.f (l0 : List (S55)) : Option ((List (S55))) := (some (([] : List (S55)) : List (S55))).bind fun y241 => (if y241.length + l0.length < 5864062014805 then (some (y241 ++ l0)) else (none))
set_option maxHeartbeats 8000000 in
set_option maxRecDepth 100000 in
theorem impl_Clue_61.calls_some (ad0 : Addr) (c0 : Nat) (l0 : List (S55)) (r : List (S55)) (w : World) (hr0 : Kd.C k55 w (some ad0) l0.length l0) (hc0 : l0.length ≤ c0) (h : impl_Clue_61.f l0 = some r) :
    Calls Try.prog 61 #[.slice (some ad0) l0.length c0] w fun e w' => ∃ v0_ : Value, e = .returned (v0_) ∧ Kd.R k55 55 w' w.heap.size (fun _ => True) v0_ r ∧ Below w.heap.size w w' := by
  have HR0 := Aside0.mk hr0
  have HC0 := Aside0.mk hc0
  clear hr0 hc0
  have HB := Aside0.mk (Below.refl w.heap.size w)
  have H : ((some (([] : List (S55)) : List (S55))).bind fun y241 => (if y241.length + l0.length < 5864062014805 then (some (y241 ++ l0)) else (none))) = some r := h
  clear h
  obtain ⟨y241, hy241⟩ : ∃ y_ : List (S55), y_ = (([] : List (S55))) := ⟨_, rfl⟩
  replace H : (if y241.length + l0.length < 5864062014805 then (some (y241 ++ l0)) else (none)) = some r := by first | (rw [hy241]; with_reducible exact H) | (have H2_ := (Option.bind_some _ _).symm.trans H; rw [hy241]; with_reducible exact H2_) | (have H2_ := (Option.bind_some _ _).symm.trans H; with_reducible exact H2_) | with_reducible exact H | (rw [hy241]; exact H) | exact H
  have Ny241 := Aside0.mk hy241
  clear hy241
  by_cases c2 : y241.length + l0.length < 5864062014805
  · rw [if_pos c2] at H
    have LMc2 := Aside0.mk c2
    clear c2
    obtain ⟨y244, hy244⟩ : ∃ y_ : List (S55), y_ = (y241 ++ l0) := ⟨_, rfl⟩
    replace H : (some y244) = some r := by first | (rw [hy244]; with_reducible exact H) | (have H2_ := (Option.bind_some _ _).symm.trans H; rw [hy244]; with_reducible exact H2_) | (have H2_ := (Option.bind_some _ _).symm.trans H; with_reducible exact H2_) | with_reducible exact H | (rw [hy244]; exact H) | exact H
    have Ny244 := Aside0.mk hy244
    clear hy244
    obtain rfl := Option.some.inj H
    have hnil : ∀ (W : World) (n c n' c' : Nat), (binOp .eql 28 (.slice (some ad0) n c) (.slice none n' c')).run Try.prog W = .ok (.bool false) W := fun W n c n' c' => Lib.run_eql_slice_nil W _ _ (some ad0) n c n' c' Try.underlying28
    go_enter Try.func61, Try.ntmps61
    go_wp2_with (first | ((with_reducible refine gate_dst (N := 5) rfl ?_); refine Kd.R_lit k55 _ 55 ?hg (N := 5) ?hd (xs := ([] : List (S55))) (inner := []) (ok := fun _ => True) (okp := fun _ => True) ?hr ?hp (fun _ hk => hk) trivial (Below.refl _ _) (Nat.le_refl _) (by simp) ?_; (case hd => rfl); (case hg => rfl); (case hr => first | (go_simp; done) | (go_simp; rfl)); (case hp => exact (Reps.none _ _)); intro v242 w3 ho4 hb hg_ hnew_; clear hg_ hnew_; (first | rw [← Ny241.out] at ho4 | (simp only [Int.reduceToNat] at ho4; rw [← Ny241.out] at ho4)); have n0_ := Aside0.mk (Kd.R_lower ho4 (below_size (by repeat (first | (with_reducible first | exact HB.out | apply below_alloc | apply pw_below_drewN | apply below_drew1) | exact HB.out)))); have n1_ := Aside0.mk (below_step (by repeat (first | (with_reducible first | exact HB.out | apply below_alloc | apply pw_below_drewN | apply below_drew1) | exact HB.out)) hb); clear HB; have HO243 := n0_; have HB := n1_; clear n0_ n1_; clear hb ho4) | ((with_reducible refine gate_builtin (b := .append) (xs := #[.tmp 5, .tmp 6]) rfl ?_); at_builtin; refine Kd.R_append_rows k55 (w0 := w) w.heap.size rfl (.tmp 5) (.tmp 6) 28 55 (.agg #[(.int .i64 0), (.int .i64 0), (.int .i64 0)]) 24 rfl Try.underlying28 info55 rfl (by decide) (by omega) v242 y241 l0 _ _ _ (fun _ => True) (fun _ => False) rfl rfl ?aO ?aR (fun _ _ h => h) (fun _ h => h.elim) ?aF ?aB ?aS ?aL ?_; (case aR => repeat (first | exact (Kd.C_below HR0.out HB.out) | (with_reducible refine Kd.C_alloc ?_ _) | (with_reducible refine Kd.C_drewN ?_ _) | (with_reducible refine Kd.C_drew ?_))); (case aB => exact (by repeat (first | (with_reducible first | exact HB.out | apply below_alloc | apply pw_below_drewN | apply below_drew1) | exact HB.out))); (case aF => exact (fun _ _ => trivial)); (case aO => exact (by (with_reducible repeat (first | apply Kd.R_alloc | apply Kd.R_drewN | apply Kd.R_drew)); exact HO243.out)); (case aS => exact (below_size (by repeat (first | (with_reducible first | exact HB.out | apply below_alloc | apply pw_below_drewN | apply below_drew1) | exact HB.out)))); (case aL => have := LMc2.out; omega); intro v245 w5 ho hb hg hat; rw [← Ny244.out] at ho; have n0_ := Aside0.mk (hb); have n1_ := Aside0.mk (ho); clear HB; clear HO243; have HB := n0_; have HO246 := n1_; clear n0_ n1_; clear ho hb hg hat))
    go_ret
    exact ⟨_, by first | rfl | (simp [errW_none, errW_some] <;> rfl) | (simp [*, errW_none, errW_some] <;> rfl), by (with_reducible repeat (first | apply Kd.R_alloc | apply Kd.R_drewN | apply Kd.R_drew)); exact HO246.out, by repeat (first | (with_reducible first | exact HB.out | apply below_alloc | apply pw_below_drewN | apply below_drew1) | exact HB.out)⟩
  · rw [if_neg c2] at H
    exact absurd H (by simp)

theorem impl_Clue_61.calls (A0 : Option Addr) (c0 : Nat) (l0 : List (S55)) (r : List (S55)) (w : World) (hr0 : Kd.C k55 w A0 l0.length l0) (hc0 : l0.length ≤ c0) (h : impl_Clue_61.f l0 = some r) :
    Calls Try.prog 61 #[.slice A0 l0.length c0] w fun e w' => ∃ v0_ : Value, e = .returned (v0_) ∧ Kd.R k55 55 w' w.heap.size (fun _ => True) v0_ r ∧ Below w.heap.size w w' := by
  cases A0 with
  | some ad0 => exact impl_Clue_61.calls_some ad0 c0 l0 r w hr0 hc0 h
  | none =>
    have hl : l0 = [] := by
      rcases Nat.eq_zero_or_pos l0.length with h0 | h0
      · exact List.length_eq_zero_iff.mp h0
      · obtain ⟨ad, e, _⟩ := hr0.2.2 h0
        cases e
    subst hl
    have hr : r = [] := by
      unfold impl_Clue_61.f at h
      simpa using h.symm
    subst hr
    have hnil : ∀ (W : World) (n c n' c' : Nat), (binOp .eql 28 (.slice none n c) (.slice none n' c')).run Try.prog W = .ok (.bool true) W := fun W n c n' c' => Lib.run_eql_slice_nil W _ _ none n c n' c' Try.underlying28
    clear hr0 hc0 h
    go_enter Try.func61, Try.ntmps61
    go_wp2
    go_ret
    exact ⟨_, rfl, Kd.R_nil _ _ _ _ _, Below.refl _ _⟩

-- NOT PRINTED: function 82 (impl_Clue_82)

/-! ### impl_without: function 58 -/
/-! ### impl.without: slices.Clone, then slices.Delete of one -/
def impl_without.f (l0 : List S55) (a1 : Int) : Option (List S55) := if 0 ≤ a1 ∧ a1 < (l0.length : Int) ∧ l0.length ≤ 1048576 then some (l0.eraseIdx a1.toNat) else none
theorem wo_clear0 (g o m c : Nat) (w1 : World) (hm : m = 1) (cur : Array Value) (hh : w1.heap[g]? = some (.cells cur 55 (0, 0))) (hfit : o + 3 ≤ cur.size) : (Builtin.clear_ #[28] 0 #[.slice (some ⟨g, o, none⟩) m c]).run Try.prog w1 = .ok (.tuple #[]) (w1.setCells g o [.int .i64 0, .int .i64 0, .int .i64 0]) := by
  subst hm
  have hst := run_storeCells_cells (P := Try.prog) g o [.int .i64 0, .int .i64 0, .int .i64 0] 0 w1 (fun j hj => by rw [blk_cell hh]; simp at hj ⊢; omega) (fun j _ => blk_frozen hh _) (by intro v hv; simp at hv; subst hv; rfl)
  simp only [Nat.add_zero] at hst
  have hv : ∀ w, (zeroValue 55).run Try.prog w = .ok (.agg #[.int .i64 0, .int .i64 0, .int .i64 0]) w := fun w => by kernel_rfl
  have hzc : (Builtin.zeroCells (Value.agg #[.int .i64 0, .int .i64 0, .int .i64 0]).cells 1).toList = [.int .i64 0, .int .i64 0, .int .i64 0] := by kernel_rfl
  simp [Builtin.clear_, run_underlying Try.underlying28, hv, hzc, hst]
set_option maxRecDepth 100000 in
theorem wo_clear (g n c : Nat) (w1 : World) {base : Nat} {ok : Nat → Prop} (ys : List S55) (h0 : 0 < n) (h1 : n ≤ 1048576) (hc : n ≤ c) (ho : Kd.R k55 55 w1 base ok (.slice (some ⟨g, 0, none⟩) (n - 1) c) ys) : (Builtin.clear_ #[28] 0 #[.slice (some ⟨g, (n - 1) * 3, none⟩) (n - (n - 1)) (c - (n - 1))]).run Try.prog w1 = .ok (.tuple #[]) (w1.setCells g ((n - 1) * 3) [.int .i64 0, .int .i64 0, .int .i64 0]) := by
  obtain ⟨_, inner, ⟨_, hor⟩, _⟩ := ho
  rcases hor with ⟨hv, _⟩ | ⟨g', cap', cur, hv, hb, hh, _, hcm, hcs, htake⟩
  · cases hv
  · injection hv with ha hn hcc
    injection ha with ha
    injection ha with hg
    subst hg hcc
    refine wo_clear0 g _ _ _ w1 (by omega) cur hh ?_
    have hsz : cur.size = c * 3 := hcs
    omega
/-- What is written behind a row's end leaves the row as it is. -/
theorem wo_tail (g m c o : Nat) (w1 : World) {base : Nat} (zs : List Value) (ys : List S55) (ho : Kd.R k55 55 w1 base (fun _ => True) (.slice (some ⟨g, 0, none⟩) m c) ys) (hm : ys.length * 3 ≤ o) (hfit : o + zs.length ≤ c * 3) : Kd.R k55 55 (w1.setCells g o zs) base (fun _ => True) (.slice (some ⟨g, 0, none⟩) m c) ys := by
  obtain ⟨hok, inner, ⟨hi, hor⟩, hr⟩ := ho
  rcases hor with ⟨hv, _⟩ | ⟨g', cap', cur, hv, hb, hh, hle, hcm, hcs, htake⟩
  · cases hv
  · have hv0 := hv
    injection hv with ha hn hcc
    injection ha with ha
    injection ha with hg
    subst hg hcc
    have hsz : cur.size = c * 3 := hcs
    obtain ⟨cur', h3, h4, h5⟩ := setCells_row zs o w1 cur hh (by omega)
    have hfar : ∀ k', k' ≠ g → (w1.setCells g o zs).heap[k']? = w1.heap[k']? := fun k' hk' => setCells_far zs _ k' hk'
    refine ⟨hok, inner, ⟨hi, .inr ⟨g, c, cur', hv0, hb, h3, hle, hcm, by rw [h4, hcs], ?_⟩⟩, hr.imp_ (fun p q hp => (k55).M_move (fun k' hk' => hfar k' (fun he => hk'.2 (by rw [he]; rfl))) hp)⟩
    rw [h5, List.append_assoc, List.take_append_of_le_length (by rw [List.length_take]; have : ys.length * (k55).sz ≤ o := hm; simp; omega), List.take_take, Nat.min_eq_left (show ys.length * (k55).sz ≤ o from hm)]
    exact htake
theorem wo_below {base g o : Nat} {w0 w1 : World} (vs : List Value) (h : Below base w0 w1) (hg : base ≤ g) : Below base w0 (w1.setCells g o vs) := by
  obtain ⟨s1, s2, s3, s4⟩ := setCells_same g vs o w1
  exact ⟨s1.trans h.os, s2.trans h.tape, s3.trans h.output, by rw [s4]; exact h.size, fun k hk => (setCells_far vs o k (by omega)).trans (h.block k hk)⟩
theorem wo_info : (Try.prog.info? 55).map (fun i => i.size) = some 3 := by kernel_rfl
set_option maxHeartbeats 4000000 in
set_option maxRecDepth 100000 in
theorem delete_one (w0 W : World) (base g c n k : Nat) (xs : List S55) (hn : xs.length = n) (hk : k < n) (hnm : n ≤ 1048576) (HO : Kd.R k55 55 W base (fun _ => True) (.slice (some ⟨g, 0, none⟩) n c) xs) (HB : Below base w0 W) (hbase : base ≤ W.heap.size) :
    Calls Try.prog 82 #[.slice (some ⟨g, 0, none⟩) n c, .int .i64 (k : Int), .int .i64 ((k + 1 : Nat) : Int)] W fun e w' => e = .returned (.slice (some ⟨g, 0, none⟩) (n - 1) c) ∧ Kd.R k55 55 w' base (fun _ => True) (.slice (some ⟨g, 0, none⟩) (n - 1) c) (xs.eraseIdx k) ∧ Below base w0 w' := by
  have hu := Try.underlying55
  have hnc : n ≤ c := (Kd.R_reads' HO).2.1
  have hne : ¬ ((k : Int) = ((k + 1 : Nat) : Int)) := by omega
  have hk0 : (0 : Int) ≤ (k : Int) := by omega
  have hk1 : (k : Int) ≤ ((k + 1 : Nat) : Int) := by omega
  have hk2 : ((k + 1 : Nat) : Int) ≤ (n : Int) := by omega
  have hk3 : (n : Int) ≤ (c : Int) := by omega
  have hkc : k ≤ c := by omega
  have hk6 : (0 : Int) ≤ (k : Int) + 1 := by omega
  have hk7 : (k : Int) + 1 ≤ (n : Int) := by omega
  have hk8 : (k : Int) + 1 ≤ (c : Int) := by omega
  have hkn : k + 1 ≤ n := by omega
  have hkb : ((k : Int) == (k : Int) + 1) = false := beq_eq_false_iff_ne.mpr (by omega)
  have HO' := Aside0.mk HO
  have HB' := Aside0.mk HB
  clear HO HB
  go_enter Try.func82, Try.ntmps82
  go_wp2_with fail
  by_cases hck : c = k + 1
  · have hcn : n = k + 1 := by omega
    subst hcn hck
    have hk4 : (k : Int) ≤ (k : Int) + 1 := by omega
    have hk5 : k ≤ k + 1 := by omega
    have HO1 := Aside0.mk (Kd.R_take HO'.out (m := k) (by omega))
    have hclr : (Builtin.clear_ #[28] 0 #[.slice (some ⟨g, k * 3, none⟩) 1 1]).run Try.prog W.drew = .ok (.tuple #[]) (W.drew.setCells g (k * 3) [.int .i64 0, .int .i64 0, .int .i64 0]) := by
      have h := wo_clear g (k + 1) (k + 1) W.drew (xs.take k) (by omega) hnm (Nat.le_refl _) (Kd.R_drew HO1.out)
      rw [show k + 1 - 1 = k by omega, show k + 1 - k = 1 by omega] at h
      exact h
    go_region_held3 (fun _ => True) (exact trivial) (fail)
    all_goals
      go_wp2_with fail
      go_ret
      have hel : xs.eraseIdx k = xs.take k := by rw [List.eraseIdx_eq_take_drop_succ, List.drop_eq_nil_of_le (by omega), List.append_nil]
      rw [hel]
      exact ⟨rfl, wo_tail g k (k + 1) _ W.drew _ _ (Kd.R_drew HO1.out) (by rw [List.length_take]; omega) (by simp only [List.length_cons, List.length_nil]; omega), wo_below _ (below_drew1 HB'.out) (Kd.R_base HO1.out g rfl)⟩
  · go_region_held3 (fun _ => True) (exact trivial) (first | (refine Kd.R_delete_step k55 (w0 := w0) base (by rfl) (.tmp 22) (.tmp 25) 28 55 rfl Try.underlying28 wo_info (g := g) (n := n) (c := c) (k := k) (m := n - (k + 1)) rfl rfl ?hA rfl HO'.out hk (below_drew1 HB'.out) hbase ?_; (case hA => (rw [if_neg hck]; simp [Addr.add]; rfl)); intro w1 ho hb hgr; have HO1 := Aside0.mk ho; have HB1 := Aside0.mk hb; have hclr := wo_clear g n c w1 (xs.eraseIdx k) (by omega) (by omega) hnc HO1.out; clear ho hb hgr))
    all_goals
      go_wp2_with fail
      go_ret
      have hel : (xs.eraseIdx k).length = n - 1 := by rw [List.length_eraseIdx_of_lt (by omega), hn]
      exact ⟨rfl, wo_tail g (n - 1) c _ w1 _ _ HO1.out (by rw [hel]; exact Nat.le_refl _) (by simp only [List.length_cons, List.length_nil]; omega), wo_below _ HB1.out (Kd.R_base HO1.out g rfl)⟩
set_option maxHeartbeats 4000000 in
set_option maxRecDepth 100000 in
theorem impl_without.calls (A0 : Option Addr) (c0 : Nat) (l0 : List (S55)) (a1 : Int) (r : List (S55)) (w : World) (hr0 : Kd.C k55 w A0 l0.length l0) (hc0 : l0.length ≤ c0) (h : impl_without.f l0 a1 = some r) :
    Calls Try.prog 58 #[.slice A0 l0.length c0, .int .i64 a1] w fun e w' => ∃ v0_ : Value, e = .returned (v0_) ∧ Kd.R k55 55 w' w.heap.size (fun _ => True) v0_ r ∧ Below w.heap.size w w' := by
  unfold impl_without.f at h
  by_cases hp : 0 ≤ a1 ∧ a1 < (l0.length : Int) ∧ l0.length ≤ 1048576
  · rw [if_pos hp] at h
    obtain rfl := Option.some.inj h
    obtain ⟨k, hk⟩ : ∃ k : Nat, a1 = (k : Int) := ⟨a1.toNat, by omega⟩
    subst hk
    rw [Int.toNat_natCast]
    have hkn : k < l0.length := by omega
    have hw : wrap64 ((k : Int) + 1) = ((k + 1 : Nat) : Int) := by unfold wrap64; omega
    have HC := Aside0.mk (impl_Clue_61.calls A0 c0 l0 l0 w hr0 hc0 (by unfold impl_Clue_61.f; rw [Option.bind_some, if_pos (by simp; omega)]; simp))
    clear hr0 hc0 h
    go_enter Try.func58, Try.ntmps58
    go_wp2_with fail
    refine HC.out.mono ?_
    rintro e w1 ⟨v1, rfl, ho1, hb1⟩
    obtain ⟨g, c, ev, hg, hlt, hcc⟩ := Kd.R_form ho1 (by omega)
    subst ev
    have HD := Aside0.mk (delete_one w w1 w.heap.size g c l0.length k l0 rfl hkn hp.2.2 ho1 hb1 hb1.size)
    clear ho1 hb1 HC hcc
    go_wp2_with fail
    refine HD.out.mono ?_
    rintro e w2 ⟨rfl, ho2, hb2⟩
    have HO2 := Aside0.mk ho2
    have HB2 := Aside0.mk hb2
    clear ho2 hb2
    go_wp2
    go_ret
    exact ⟨_, rfl, HO2.out, HB2.out⟩
  · rw [if_neg hp] at h
    cases h

end Go.Proofs.Ytennnaibnlmjlaa.H
