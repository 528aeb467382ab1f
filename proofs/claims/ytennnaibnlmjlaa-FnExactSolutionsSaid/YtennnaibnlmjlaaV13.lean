/- The walks of the Go functions that these laws reach: each is proved to do what a plain Lean function says. -/
import Derived.Test.YtennnaibnlmjlaaV0
import Derived.Test.YtennnaibnlmjlaaV8
import Derived.Test.YtennnaibnlmjlaaV9
import Derived.Test.YtennnaibnlmjlaaV10
import Derived.Test.YtennnaibnlmjlaaV12
namespace Go.Proofs.Ytennnaibnlmjlaa.V
open Go.RowKit Go.Proofs.YtennnaibnlmjlaaW.PrintWords Go.Proofs.YtennnaibnlmjlaaW.PrintLast Go.Proofs.YtennnaibnlmjlaaW.PrintMore
attribute [local go_sem] max2_int min2_int max_two min_two max_three min_three max_four min_four   -- for this text's walks alone
set_option linter.unusedVariables false
set_option linter.unusedSimpArgs false

/-! ### impl_solutions: function 57 -/
/-! ### impl.solutions and its literals: a list that is filled by a function value that calls itself -/
def impl_solutions.no (k : Nat) (b : List Int) (c : S55) : Option Bool := (impl_Clue_fits.f k c.f0 c.f1 c.f2 b).bind fun x => some (!x)
def impl_solutions.leaf (k : Nat) (cl : List S55) (b : List Int) : Option (List (List Int)) := (anyO_Clue (impl_solutions.no k b) cl).bind fun bad => some (if bad = true then [] else [b])
/-- The ages from 13 - n to 12, each behind b. -/
def impl_solutions.ages (rec : List Int → Option (List (List Int))) (b : List Int) : Nat → Option (List (List Int))
  | 0 => some []
  | n + 1 => (rec (b ++ [12 - (n : Int)])).bind fun x => (impl_solutions.ages rec b n).bind fun y => some (x ++ y)
def impl_solutions.put (k : Nat) (cl : List S55) : Nat → List Int → Option (List (List Int))
  | 0, b => impl_solutions.leaf k cl b
  | n + 1, b => impl_solutions.ages (impl_solutions.put k cl n) b 12
def impl_solutions.f (k : Nat) (a0 : Int) (l1 : List S55) : Option (List (List Int)) := if 0 ≤ a0 ∧ a0 ≤ 3 then ((impl_solutions.put k l1 a0.toNat []).bind fun r => if r.length ≤ 1000000 then some r else none) else none
theorem impl_solutions.ages_mono {g g' : List Int → Option (List (List Int))} (h : ∀ b, LeO (g b) (g' b)) (b : List Int) : ∀ n, LeO (impl_solutions.ages g b n) (impl_solutions.ages g' b n)
  | 0 => LeO.refl _
  | n + 1 => by
    unfold impl_solutions.ages
    exact LeO.bind (h _) (fun _ => LeO.bind (impl_solutions.ages_mono h b n) (fun _ => LeO.refl _))
theorem sol_any_mono {q q' : S55 → Option Bool} (h : ∀ c, LeO (q c) (q' c)) : ∀ l, LeO (anyO_Clue q l) (anyO_Clue q' l)
  | [] => LeO.refl _
  | c :: t => by
    unfold anyO_Clue
    exact LeO.bind (h c) (fun b => LeO.ite (LeO.refl _) (sol_any_mono h t))
theorem impl_solutions.put_mono (k : Nat) (cl : List S55) : ∀ n b, LeO (impl_solutions.put k cl n b) (impl_solutions.put (k + 1) cl n b)
  | 0, b => by
    unfold impl_solutions.put impl_solutions.leaf
    exact LeO.bind (sol_any_mono (fun c => LeO.bind (impl_Clue_fits.mono _ _ _ _ _) (fun _ => LeO.refl _)) cl) (fun _ => LeO.refl _)
  | n + 1, b => by
    unfold impl_solutions.put
    exact impl_solutions.ages_mono (impl_solutions.put_mono k cl n) b 12
theorem impl_solutions.mono : ∀ a0 a1 k, LeO (impl_solutions.f k a0 a1) (impl_solutions.f (k + 1) a0 a1) := by
  intro a0 a1 k
  unfold impl_solutions.f
  exact LeO.ite (LeO.bind (impl_solutions.put_mono k a1 _ _) (fun _ => LeO.refl _)) (LeO.refl _)
theorem sol_infoI : (Try.prog.info? 3).map (fun i => (i.zero, i.size, i.bytes)) = some (some (.int .i64 0), 1, 8) := by kernel_rfl
theorem sol_infoS : (Try.prog.info? 22).map (fun i => (i.zero, i.size, i.bytes)) = some (some (.slice none 0 0), 1, 24) := by kernel_rfl
/-- One goes on: all blocks but g and the list's own stay, and the list's own is as before or new. -/
def SolStep (W : World) (v : Value) (g : Nat) (W' : World) (v' : Value) : Prop := KeepBut W W' g v.ownBlock ∧ (v'.ownBlock = v.ownBlock ∨ ∃ b, v'.ownBlock = some b ∧ W.heap.size ≤ b)
theorem SolStep.refl (W : World) (v : Value) (g : Nat) : SolStep W v g W v := ⟨KeepBut.refl _ _ _, Or.inl rfl⟩
theorem SolStep.below {W W' : World} (h : Below W.heap.size W W') (v : Value) (g : Nat) : SolStep W v g W' v := ⟨KeepBut.of_below h _ _, Or.inl rfl⟩
theorem SolStep.trans {W W1 W2 : World} {v v1 v2 : Value} {g : Nat} (h : SolStep W v g W1 v1) (h' : SolStep W1 v1 g W2 v2) : SolStep W v g W2 v2 := by
  obtain ⟨⟨hs, hk⟩, hv⟩ := h
  obtain ⟨⟨hs', hk'⟩, hv'⟩ := h'
  refine ⟨⟨Nat.le_trans hs hs', fun i hi hg hr => ?_⟩, ?_⟩
  · have h1 := hk i hi hg hr
    have h2 : some i ≠ v1.ownBlock := by
      rcases hv with e | ⟨b, e, hb⟩
      · rw [e]; exact hr
      · rw [e]; intro h3; injection h3 with h3; omega
    exact (hk' i (by omega) hg h2).trans h1
  · rcases hv' with e | ⟨b, e, hb⟩
    · rw [e]; exact hv
    · exact Or.inr ⟨b, e, by omega⟩
theorem SolStep.kept {W W' : World} {v v' : Value} {g i : Nat} {o : Obj} (h : SolStep W v g W' v') (ho : W.heap[i]? = some o) (hg : i ≠ g) (hr : some i ≠ v.ownBlock) : W'.heap[i]? = some o := (h.1.2 i (blk_lt ho) hg hr).trans ho
theorem SolStep.apart {W W' : World} {v v' : Value} {g i : Nat} {o : Obj} (h : SolStep W v g W' v') (ho : W.heap[i]? = some o) (hr : some i ≠ v.ownBlock) : some i ≠ v'.ownBlock := by
  have hi := blk_lt ho
  rcases h.2 with e | ⟨b, e, hb⟩
  · rw [e]; exact hr
  · rw [e]; intro h3; injection h3 with h3; omega
theorem SolStep.row {W W' : World} {v v' : Value} {g t : Nat} {c : Array Value} {base : Nat} {okp : Nat → Prop} {u : Value} {ys : List Int} {xs : List (List Int)} {okv : Nat → Prop} (h : SolStep W v g W' v') (hr : Kd.R (Kd.int .i64) 3 W base okp u ys) (hG : W.heap[g]? = some (.cells c t (0, 0))) (ht : 3 ≠ t) (hv : Kd.S (Kd.slice 3 (Kd.int .i64)) 22 W base okv v xs) : Kd.R (Kd.int .i64) 3 W' base okp u ys :=
  Kd.R_mono (Kd.R_move (Kd.R_bound hr) (fun k hk' => by
    obtain ⟨_, _, hlt, q, hq, cells, hc⟩ := hk'
    have hq3 : q = 3 := by simpa [Kd.int, Kd.scalar] using hq
    subst hq3
    exact h.1.2 k hlt (blk_ne hc hG ht) (Kd.S_ne hv hc (by decide)))) (fun _ hk' => hk'.1)
/-- What a call of the literal leaves. -/
def impl_solutions.Left (w0 W : World) (g : Nat) (v : Value) (xs : List (List Int)) (e : Ending) (W' : World) : Prop := e = .returned (.tuple #[]) ∧ ∃ v', W'.heap[g]? = some (.cells #[v'] 40 (0, 0)) ∧ Kd.S (Kd.slice 3 (Kd.int .i64)) 22 W' w0.heap.size (fun _ => True) v' xs ∧ Below w0.heap.size w0 W' ∧ SolStep W v g W' v'
set_option maxHeartbeats 1000000 in
theorem impl_solutions.lit (k : Nat) (b : List Int) (B : Nat) (Ab : Option Addr) (cb : Nat) (W : World) (c : S55) (x : Bool) (hB : W.heap[B]? = some (.cells #[.slice Ab b.length cb] 22 (0, 0))) (hr : Kd.C (Kd.int .i64) W Ab b.length b) (hc : b.length ≤ cb) (h : impl_solutions.no k b c = some x) :
    Calls Try.prog 80 #[.agg #[.int .i64 c.f0, .int .i64 c.f1, .int .i64 c.f2], .pointer (some ⟨B, 0, none⟩)] W fun e w' => e = .returned (.bool x) ∧ Below W.heap.size W w' := by
  obtain ⟨b1, h1, h2⟩ := Option.bind_eq_some_iff.mp h
  obtain rfl := Option.some.inj h2
  obtain ⟨c0, c1, c2⟩ := c
  have hcell : W.cell? ⟨B, 0, none⟩ = some (.slice Ab b.length cb) := (blk_cell hB 0).trans rfl
  have hlt : B < W.heap.size := blk_lt hB
  have HC := Aside0.mk (impl_Clue_fits.calls k c0 c1 c2 Ab cb b b1 (W.alloc (.cells #[.int .i64 c0, .int .i64 c1, .int .i64 c2] 55)) (Kd.C_alloc hr _) hc h1)
  have hu := Try.underlying55
  clear h h1 h2 hB hr hc
  go_enter Try.func80, Try.ntmps80
  go_wp2_with fail
  refine HC.out.mono ?_
  rintro e w' ⟨rfl, hb⟩
  go_wp2
  go_ret
  exact ⟨rfl, below_then (below_alloc (Below.refl _ _) _) (by simp) hb⟩
/-- The boxes of what the literal has caught. -/
def SolBoxes (W : World) (p : Int) (A1 : Option Addr) (c1 n1 : Nat) (g2 g6 g3 g5 : Nat) : Prop := W.heap[g2]? = some (.cells #[.int .i64 p] 3 (0, 0)) ∧ W.heap[g6]? = some (.cells #[.func (.func 79) #[] #[.pointer (some ⟨g2, 0, none⟩), .pointer (some ⟨g6, 0, none⟩), .pointer (some ⟨g3, 0, none⟩), .pointer (some ⟨g5, 0, none⟩)]] 84 (0, 0)) ∧ W.heap[g3]? = some (.cells #[.slice A1 n1 c1] 28 (0, 0))
theorem SolBoxes.below {W W' : World} {p : Int} {A1 : Option Addr} {c1 n1 g2 g6 g3 g5 : Nat} (h : SolBoxes W p A1 c1 n1 g2 g6 g3 g5) (hb : Below W.heap.size W W') : SolBoxes W' p A1 c1 n1 g2 g6 g3 g5 := ⟨blk_below h.1 hb, blk_below h.2.1 hb, blk_below h.2.2 hb⟩
theorem SolBoxes.step {W W' : World} {p : Int} {A1 : Option Addr} {c1 n1 g2 g6 g3 g5 : Nat} {v v' u : Value} {base : Nat} {okv : Nat → Prop} {xs : List (List Int)} (h : SolBoxes W p A1 c1 n1 g2 g6 g3 g5) (hs : SolStep W v g5 W' v') (hG : W.heap[g5]? = some (.cells #[u] 40 (0, 0))) (hv : Kd.S (Kd.slice 3 (Kd.int .i64)) 22 W base okv v xs) : SolBoxes W' p A1 c1 n1 g2 g6 g3 g5 :=
  ⟨hs.kept h.1 (blk_ne h.1 hG (by decide)) (Kd.S_ne hv h.1 (by decide)), hs.kept h.2.1 (blk_ne h.2.1 hG (by decide)) (Kd.S_ne hv h.2.1 (by decide)), hs.kept h.2.2 (blk_ne h.2.2 hG (by decide)) (Kd.S_ne hv h.2.2 (by decide))⟩
set_option maxHeartbeats 4000000 in
set_option maxRecDepth 100000 in
theorem impl_solutions.leaf_calls (kk : Nat) (A1 : Option Addr) (c1 : Nat) (cl : List S55) (w0 : World) (hcl : Kd.C k55 w0 A1 cl.length cl) (hc1 : cl.length ≤ c1) (p : Int) (g2 g6 g3 g5 : Nat)
    (W : World) (v : Value) (Ab : Option Addr) (cb : Nat) (xs : List (List Int)) (bl : List Int) (r : List (List Int)) (hp : (bl.length : Int) = p) (hX : SolBoxes W p A1 c1 cl.length g2 g6 g3 g5) (hB : Below w0.heap.size w0 W) (hg : w0.heap.size ≤ g5) (hG : W.heap[g5]? = some (.cells #[v] 40 (0, 0))) (hS : Kd.S (Kd.slice 3 (Kd.int .i64)) 22 W w0.heap.size (fun k => some k ≠ (Value.slice Ab bl.length cb).ownBlock) v xs) (hR : Kd.R (Kd.int .i64) 3 W w0.heap.size (fun _ => True) (.slice Ab bl.length cb) bl) (hlen : xs.length + r.length ≤ 1000000) (hf : impl_solutions.leaf kk cl bl = some r) :
    Calls Try.prog 79 #[.slice Ab bl.length cb, .pointer (some ⟨g2, 0, none⟩), .pointer (some ⟨g6, 0, none⟩), .pointer (some ⟨g3, 0, none⟩), .pointer (some ⟨g5, 0, none⟩)] W (impl_solutions.Left w0 W g5 v (xs ++ r)) := by
  obtain ⟨bad, hq, hr⟩ := Option.bind_eq_some_iff.mp hf
  replace hr := (Option.some.inj hr).symm
  have eg : ∀ args w, (callFunc 80 args).run Try.prog w = .ok (.enter 80 args) w := enters_of Try.func80 (by kernel_rfl) rfl
  obtain ⟨hX2, hX6, hX3⟩ := hX
  have hb5 : (W.alloc (.cells #[.slice Ab bl.length cb] 22)).heap[W.heap.size]? = some (.cells #[.slice Ab bl.length cb] 22 (0, 0)) := heap_alloc_new W _
  have HRb := Kd.R_reads' hR
  have HC := Aside0.mk (containsFunc_T55 80 #[.pointer (some ⟨W.heap.size, 0, none⟩)] (impl_solutions.no kk bl) eg A1 c1 cl bad (W.alloc (.cells #[.slice Ab bl.length cb] 22)) (Kd.C_alloc (Kd.C_below hcl hB) _) (fun W' x b hb hx => impl_solutions.lit kk bl W.heap.size Ab cb W' x b (blk_below hb5 hb) (Kd.C_below (Kd.C_alloc HRb.2.2 _) hb) HRb.2.1 hx) hq)
  have hz2 : (W.alloc (.cells #[.slice Ab bl.length cb] 22)).cell? ⟨g2, 0, none⟩ = some (.int .i64 p) := (blk_cell (blk_alloc hX2 _) 0).trans rfl
  have hz3 : (W.alloc (.cells #[.slice Ab bl.length cb] 22)).cell? ⟨g3, 0, none⟩ = some (.slice A1 cl.length c1) := (blk_cell (blk_alloc hX3 _) 0).trans rfl
  have hz5 : (W.alloc (.cells #[.slice Ab bl.length cb] 22)).cell? ⟨W.heap.size, 0, none⟩ = some (.slice Ab bl.length cb) := (blk_cell hb5 0).trans rfl
  have hnlt : ¬ (bl.length : Int) < p := by omega
  have HB5 := Aside0.mk hb5
  have HR := Aside0.mk hR
  have HS := Aside0.mk hS
  have HG := Aside0.mk hG
  have HB := Aside0.mk hB
  have Hg := Aside0.mk hg
  have HRR := Aside0.mk hr
  have HL := Aside0.mk hlen
  clear hX2 hX6 hX3 hb5 HRb hcl hR hS hG hB hg hq hr hlen hf hp
  go_enter Try.func79, Try.ntmps79
  go_wp2_with fail
  refine HC.out.mono ?_
  rintro e w' ⟨rfl, hb⟩
  have HBr := Aside0.mk (below_then (below_alloc (Below.refl W.heap.size W) (.cells #[.slice Ab bl.length cb] 22)) (below_alloc (Below.refl W.heap.size W) (.cells #[.slice Ab bl.length cb] 22)).size hb)
  have HB6 := Aside0.mk (blk_below HB5.out hb)
  clear hb HC
  cases bad with
  | true =>
    have hr2 : r = [] := by rw [HRR.out, if_pos rfl]
    have H4 := Aside0.mk hr2
    clear hr2
    go_wp2
    ((try simp only [Exit.inBlock, Exit.then]); refine bodyPost_end (results_none rfl _ _ _) rfl ?_)
    refine ⟨rfl, v, blk_below HG.out HBr.out, ?_, below_step HB.out HBr.out, SolStep.below HBr.out _ _⟩
    rw [H4.out, List.append_nil]
    exact Kd.S_mono (Kd.S_below HS.out HBr.out) (fun _ _ => trivial)
  | false =>
    have hr2 : r = [bl] := by rw [HRR.out, if_neg (by decide)]
    have H4 := Aside0.mk hr2
    clear hr2
    have HG2 := Aside0.mk (blk_below HG.out HBr.out)
    have HS2 := Aside0.mk (Kd.S_below HS.out HBr.out)
    have HR2 := Aside0.mk (Kd.R_below HR.out HBr.out)
    obtain ⟨Av, cv, ev⟩ := Kd.S_slice HS2.out
    subst ev
    have hcz : w'.cell? ⟨g5, 0, none⟩ = some (.slice Av xs.length cv) := (blk_cell HG2.out 0).trans rfl
    have hfz := blk_frozen HG2.out 0
    have hcy : w'.cell? ⟨W.heap.size, 0, none⟩ = some (.slice Ab bl.length cb) := (blk_cell HB6.out 0).trans rfl
    go_wp2_with ((with_reducible refine gate_builtin (b := .append) (xs := #[.tmp 26, .tmp 28]) rfl ?_); at_builtin; refine Kd.S_append (Kd.slice 3 (Kd.int .i64)) (w0 := w0) w0.heap.size rfl (.tmp 26) (.tmp 28) 40 22 (.slice none 0 0) 24 rfl Try.underlying40 sol_infoS rfl (by decide) (by omega) (.slice Av xs.length cv) xs bl [.slice Ab bl.length cb] (fun _ => True) (fun k_ => some k_ = (Value.slice Ab bl.length cb).ownBlock) rfl rfl (Kd.M_row (Kd.R_tight rfl HR2.out)) (fun k_ hk_ => ⟨trivial, ((Kd.R_apart' HR2.out (Kd.S_typed HS2.out) (by decide)).1 k_ hk_.symm).2⟩) (fun _ _ => trivial) (Kd.S_mono HS2.out (fun k_ hk_ => ⟨trivial, fun e_ => hk_ e_⟩)) (below_step HB.out HBr.out) (below_size (below_step HB.out HBr.out)) (by have := HL.out; rw [H4.out] at this; simp at this; omega) ?_; intro v1 w1 ho hb hgr hat; obtain ⟨Av1, cv1, ev1⟩ := Kd.S_slice ho; subst ev1; have HG3 := Aside0.mk (blk_grown HG2.out hgr (Kd.S_ne HS2.out HG2.out (by decide))); have hcz3 : w1.cell? ⟨g5, 0, none⟩ = some (.slice Av xs.length cv) := (blk_cell HG3.out 0).trans rfl; have hfz3 := blk_frozen HG3.out 0; have HO := Aside0.mk ho; have HB3 := Aside0.mk hb; have HK3 := Aside0.mk (show SolStep w' (.slice Av xs.length cv) g5 w1 _ from ⟨KeepBut.of_grown hgr _, hat⟩); clear ho hb hgr hat)
    ((try simp only [Exit.inBlock, Exit.then]); refine bodyPost_end (results_none rfl _ _ _) rfl ?_)
    rw [H4.out]
    have HO2 : Kd.S (Kd.slice 3 (Kd.int .i64)) 22 w1 w0.heap.size (fun _ => True) (.slice Av1 (xs.length + 1) cv1) (xs ++ [bl]) := by
      have e_ : (xs ++ [bl]).length = xs.length + 1 := by simp
      rw [← e_]; exact HO.out
    have HK4 := (SolStep.below HBr.out (.slice Av xs.length cv) g5).trans HK3.out
    have e_ : (xs ++ [bl]).length = xs.length + 1 := by simp
    rw [e_] at HK4
    exact ⟨rfl, _, blk_put HG3.out 0 _ rfl, Kd.S_set HO2 HG3.out (by decide) 0 _, below_set HB3.out Hg.out, ⟨KeepBut.set_ HK4.1 0 _, HK4.2⟩⟩
theorem sol_one {W : World} {g : Nat} {a : Int} (h : W.heap[g]? = some (.cells #[.int .i64 a] 3 (0, 0))) : Kd.C (Kd.int .i64) W (some ⟨g, 0, none⟩) 1 [a] := by
  refine ⟨rfl, by decide, fun _ => ⟨_, rfl, fun j p hj => ⟨[.int .i64 p], rfl, rfl, fun i u hi => ?_⟩⟩⟩
  have hj0 : j = 0 := by
    have := (List.getElem?_eq_some_iff.mp hj).1
    simp at this
    omega
  subst hj0
  have hp : a = p := by simpa using hj
  subst hp
  have hi0 : i = 0 := by
    have := (List.getElem?_eq_some_iff.mp hi).1
    simp at this
    omega
  subst hi0
  have hu : Value.int .i64 a = u := by simpa using hi
  subst hu
  exact (blk_cell h 0).trans rfl
set_option maxHeartbeats 4000000 in
set_option maxRecDepth 100000 in
theorem impl_solutions.put_calls (kk : Nat) (A1 : Option Addr) (c1 : Nat) (cl : List S55) (w0 : World) (hcl : Kd.C k55 w0 A1 cl.length cl) (hc1 : cl.length ≤ c1) (p : Int) (g2 g6 g3 g5 : Nat) (hg : w0.heap.size ≤ g5) :
    ∀ (n : Nat) (W : World) (v : Value) (Ab : Option Addr) (cb : Nat) (xs : List (List Int)) (bl : List Int) (r : List (List Int)), (bl.length : Int) + n = p → bl.length + n ≤ 1000 → SolBoxes W p A1 c1 cl.length g2 g6 g3 g5 → Below w0.heap.size w0 W → W.heap[g5]? = some (.cells #[v] 40 (0, 0)) → Kd.S (Kd.slice 3 (Kd.int .i64)) 22 W w0.heap.size (fun k => some k ≠ (Value.slice Ab bl.length cb).ownBlock) v xs → Kd.R (Kd.int .i64) 3 W w0.heap.size (fun _ => True) (.slice Ab bl.length cb) bl → xs.length + r.length ≤ 1000000 → impl_solutions.put kk cl n bl = some r →
    Calls Try.prog 79 #[.slice Ab bl.length cb, .pointer (some ⟨g2, 0, none⟩), .pointer (some ⟨g6, 0, none⟩), .pointer (some ⟨g3, 0, none⟩), .pointer (some ⟨g5, 0, none⟩)] W (impl_solutions.Left w0 W g5 v (xs ++ r)) := by
  intro n
  induction n with
  | zero =>
    intro W v Ab cb xs bl r hp _ hX hB hG hS hR hlen hf
    exact impl_solutions.leaf_calls kk A1 c1 cl w0 hcl hc1 p g2 g6 g3 g5 W v Ab cb xs bl r (by omega) hX hB hg hG hS hR hlen hf
  | succ n ih =>
    intro W v Ab cb xs bl r hp hbn hX hB hG hS hR hlen hf
    have eg : ∀ args w, (callFunc 79 args).run Try.prog w = .ok (.enter 79 args) w := enters_of Try.func79 (by kernel_rfl) rfl
    have hb5 : (W.alloc (.cells #[.slice Ab bl.length cb] 22)).heap[W.heap.size]? = some (.cells #[.slice Ab bl.length cb] 22 (0, 0)) := heap_alloc_new W _
    have hz2 : (W.alloc (.cells #[.slice Ab bl.length cb] 22)).cell? ⟨g2, 0, none⟩ = some (.int .i64 p) := (blk_cell (blk_alloc hX.1 _) 0).trans rfl
    have hz5 : (W.alloc (.cells #[.slice Ab bl.length cb] 22)).cell? ⟨W.heap.size, 0, none⟩ = some (.slice Ab bl.length cb) := (blk_cell hb5 0).trans rfl
    have hlt : (bl.length : Int) < p := by omega
    replace hf : impl_solutions.ages (impl_solutions.put kk cl n) bl 12 = some r := hf
    have HIH := Aside0.mk ih
    have HRb := Aside0.mk (Kd.R_reads' hR).2
    have HX := Aside0.mk hX
    have HR := Aside0.mk hR
    have HS := Aside0.mk hS
    have HG := Aside0.mk hG
    have HB := Aside0.mk hB
    have Hg := Aside0.mk hg
    have HL := Aside0.mk hlen
    have HBN := Aside0.mk hbn
    have HP := Aside0.mk hp
    have HF := Aside0.mk hf
    have HB5 := Aside0.mk hb5
    have HN5 := Aside0.mk (show some W.heap.size ≠ v.ownBlock from fun e => by have := Kd.S_lt hS _ e.symm; omega)
    clear hcl ih hR hS hG hB hg hlen hf hbn hp hX hb5
    go_enter Try.func79, Try.ntmps79
    go_wp2
    go_loopg [6] 12 (fun gg s6 wr => ∃ (j : Nat) (v' : Value) (ys r' : List (List Int)), j ≤ gg ∧ j ≤ 12 ∧ s6 = .int .i64 (13 - (j : Int)) ∧ Aside0 (impl_solutions.ages (impl_solutions.put kk cl n) bl j = some r' ∧ ys ++ r' = xs ++ r) ∧ Aside0 (wr.heap[g5]? = some (.cells #[v'] 40 (0, 0))) ∧ Aside0 (Kd.S (Kd.slice 3 (Kd.int .i64)) 22 wr w0.heap.size (fun _ => True) v' ys) ∧ Aside0 (Below w0.heap.size w0 wr) ∧ Aside0 (SolStep W v g5 wr v') ∧ Aside0 (wr.heap[W.heap.size]? = some (.cells #[.slice Ab bl.length cb] 22 (0, 0)) ∧ some W.heap.size ≠ v'.ownBlock))
    case atStart => exact ⟨12, v, xs, r, Nat.le_refl _, Nat.le_refl _, by simp, ⟨HF.out, rfl⟩, ⟨blk_alloc HG.out _⟩, ⟨Kd.S_alloc (Kd.S_mono HS.out (fun _ _ => trivial)) _⟩, ⟨below_alloc HB.out _⟩, ⟨SolStep.below (below_alloc (Below.refl _ _) _) _ _⟩, ⟨HB5.out, HN5.out⟩⟩
    case round =>
      clear hz2 hz5
      obtain ⟨j, v', ys, r', hjg, hj12, rfl, HA, HGr, HSr, HBr, HKr, HQr⟩ := hrel
      cases j with
      | zero =>
        have e0 : r' = [] := by have := HA.out.1; unfold impl_solutions.ages at this; exact (Option.some.inj this).symm
        have e1 : ys = xs ++ r := by have := HA.out.2; rw [e0, List.append_nil] at this; exact this
        have E1 := Aside0.mk e1
        clear e0 e1
        go_wp2
        ((try simp only [Exit.inBlock, Exit.then]); refine bodyPost_end (results_none rfl _ _ _) rfl ?_)
        exact ⟨rfl, v', HGr.out, by rw [← E1.out]; exact HSr.out, HBr.out, HKr.out⟩
      | succ j =>
        obtain ⟨x, hx, y0, hy0, hr'⟩ : ∃ x, impl_solutions.put kk cl n (bl ++ [12 - (j : Int)]) = some x ∧ ∃ y0, impl_solutions.ages (impl_solutions.put kk cl n) bl j = some y0 ∧ r' = x ++ y0 := by
          have h := HA.out.1
          unfold impl_solutions.ages at h
          obtain ⟨x, hx, h⟩ := Option.bind_eq_some_iff.mp h
          obtain ⟨y0, hy0, h⟩ := Option.bind_eq_some_iff.mp h
          exact ⟨x, hx, y0, hy0, (Option.some.inj h).symm⟩
        obtain ⟨y, hy⟩ : ∃ y, y = bl ++ [12 - (j : Int)] := ⟨_, rfl⟩
        rw [← hy] at hx
        have hylen : y.length = bl.length + 1 := by rw [hy]; simp
        have hxl : ys.length + x.length ≤ 1000000 := by
          have h1 := congrArg List.length HA.out.2
          have h2 := HL.out
          rw [hr'] at h1
          simp only [List.length_append] at h1
          omega
        have hyl : y.length + n ≤ 1000 := by have := HBN.out; omega
        have hyp : (y.length : Int) + n = p := by have := HP.out; omega
        have hnext : ys ++ x ++ y0 = xs ++ r := by rw [List.append_assoc, ← hr']; exact HA.out.2
        have HXX := Aside0.mk hx
        have HY0 := Aside0.mk hy0
        have HY := Aside0.mk hy
        have HXL := Aside0.mk hxl
        have HYL := Aside0.mk hyl
        have HYP := Aside0.mk hyp
        have HNX := Aside0.mk hnext
        have HBL := Aside0.mk (show bl.length ≤ 1000 by have := HBN.out; omega)
        clear hx hy0 hy hxl hyl hyp hnext hr' hylen
        have ha : (13 : Int) - ((j + 1 : Nat) : Int) = 12 - (j : Int) := by omega
        have hle : (12 : Int) - (j : Int) ≤ 12 := by omega
        rw [ha]
        have HXr := Aside0.mk (SolBoxes.step HX.out HKr.out HG.out HS.out)
        have HRr := Aside0.mk (SolStep.row HKr.out HR.out HG.out (by decide) HS.out)
        have hcz6 : wr.cell? ⟨g6, 0, none⟩ = some (.func (.func 79) #[] #[.pointer (some ⟨g2, 0, none⟩), .pointer (some ⟨g6, 0, none⟩), .pointer (some ⟨g3, 0, none⟩), .pointer (some ⟨g5, 0, none⟩)]) := (blk_cell HXr.out.2.1 0).trans rfl
        have hcz5 : wr.cell? ⟨W.heap.size, 0, none⟩ = some (.slice Ab bl.length cb) := (blk_cell HQr.out.1 0).trans rfl
        have HCr := Aside0.mk (Kd.R_reads' HRr.out).2.2
        have HfC := Aside0.mk (show slices_Clone_int_int.f bl = some bl by have := HBL.out; unfold slices_Clone_int_int.f; rw [Option.bind_some, if_pos (by simp; omega)]; simp)
        go_upto_region 5 with (fail)
        have QB := Aside0.mk (show (wr.heap[g6]? = some (.cells #[.func (.func 79) #[] #[.pointer (some ⟨g2, 0, none⟩), .pointer (some ⟨g6, 0, none⟩), .pointer (some ⟨g3, 0, none⟩), .pointer (some ⟨g5, 0, none⟩)]] 84 (0, 0)) ∧ wr.heap[W.heap.size]? = some (.cells #[.slice Ab bl.length cb] 22 (0, 0))) from ⟨HXr.out.2.1, HQr.out.1⟩)
        have Q0 := QB
        go_region_held3 (fun w' => w'.cell? ⟨g6, 0, none⟩ = some (.func (.func 79) #[] #[.pointer (some ⟨g2, 0, none⟩), .pointer (some ⟨g6, 0, none⟩), .pointer (some ⟨g3, 0, none⟩), .pointer (some ⟨g5, 0, none⟩)]) ∧ w'.cell? ⟨W.heap.size, 0, none⟩ = some (.slice Ab bl.length cb)) (first | exact ⟨hcz6, hcz5⟩ | exact ⟨(blk_cell QB.out.1 0).trans rfl, (blk_cell QB.out.2 0).trans rfl⟩ | exact ⟨(blk_cell (blk_alloc QB.out.1 _) 0).trans rfl, (blk_cell (blk_alloc QB.out.2 _) 0).trans rfl⟩) (first | (go_at_call 55; refine (slices_Clone_int_int.calls Ab cb bl bl _ ?s1 HRb.out.1 HfC.out).mono ?_; (case s1 => (first | exact HCr.out | exact Kd.C_drew HCr.out | exact Kd.C_alloc HCr.out _ | exact Kd.C_alloc (Kd.C_drew HCr.out) _ | exact Kd.C_drew (Kd.C_alloc HCr.out _))); rintro e w1 ⟨v1, rfl, ho1, hb1⟩; obtain ⟨A1_, c1_, ev1⟩ := Kd.R_slice ho1; subst ev1; have HB1 := Aside0.mk (show Below wr.heap.size wr w1 from ⟨hb1.os, hb1.tape, hb1.output, hb1.size, hb1.block⟩); have HO1 := Aside0.mk (show Kd.R (Kd.int .i64) 3 w1 wr.heap.size (fun _ => True) (.slice A1_ bl.length c1_) bl from ho1); have QN := Aside0.mk (show (w1.heap[g6]? = some (.cells #[.func (.func 79) #[] #[.pointer (some ⟨g2, 0, none⟩), .pointer (some ⟨g6, 0, none⟩), .pointer (some ⟨g3, 0, none⟩), .pointer (some ⟨g5, 0, none⟩)]] 84 (0, 0)) ∧ w1.heap[W.heap.size]? = some (.cells #[.slice Ab bl.length cb] 22 (0, 0))) from ⟨blk_below Q0.out.1 HB1.out, blk_below Q0.out.2 HB1.out⟩); clear QB; have QB := QN; clear QN ho1 hb1)  | (go_at_call 55; refine (slices_Clone_int_int.calls Ab cb bl bl _ ?s1 HRb.out.1 HfC.out).mono ?_; (case s1 => (first | exact HCr.out | exact Kd.C_drew HCr.out | exact Kd.C_alloc HCr.out _ | exact Kd.C_alloc (Kd.C_drew HCr.out) _ | exact Kd.C_drew (Kd.C_alloc HCr.out _))); rintro e w1 ⟨v1, rfl, ho1, hb1⟩; obtain ⟨A1_, c1_, ev1⟩ := Kd.R_slice ho1; subst ev1; have hb2 := (show Below (wr.alloc (.cells #[.int .i64 (12 - (j : Int))] 3)).heap.size (wr.alloc (.cells #[.int .i64 (12 - (j : Int))] 3)) w1 from ⟨hb1.os, hb1.tape, hb1.output, hb1.size, hb1.block⟩); have HLIT := Aside0.mk (sol_one (blk_below (show (wr.alloc (.cells #[.int .i64 (12 - (j : Int))] 3)).heap[wr.heap.size]? = some (.cells #[.int .i64 (12 - (j : Int))] 3 (0, 0)) from heap_alloc_new wr _) hb2)); have HB1 := Aside0.mk (show Below wr.heap.size wr w1 from below_then (below_alloc (Below.refl wr.heap.size wr) (.cells #[.int .i64 (12 - (j : Int))] 3)) (below_alloc (Below.refl wr.heap.size wr) (.cells #[.int .i64 (12 - (j : Int))] 3)).size hb2); have HO1 := Aside0.mk (show Kd.R (Kd.int .i64) 3 w1 wr.heap.size (fun _ => True) (.slice A1_ bl.length c1_) bl from Kd.R_lower ho1 (below_alloc (Below.refl wr.heap.size wr) (.cells #[.int .i64 (12 - (j : Int))] 3)).size); clear hb2; have QN := Aside0.mk (show (w1.heap[g6]? = some (.cells #[.func (.func 79) #[] #[.pointer (some ⟨g2, 0, none⟩), .pointer (some ⟨g6, 0, none⟩), .pointer (some ⟨g3, 0, none⟩), .pointer (some ⟨g5, 0, none⟩)]] 84 (0, 0)) ∧ w1.heap[W.heap.size]? = some (.cells #[.slice Ab bl.length cb] 22 (0, 0))) from ⟨blk_below Q0.out.1 HB1.out, blk_below Q0.out.2 HB1.out⟩); clear QB; have QB := QN; clear QN ho1 hb1)  | (refine Kd.R_append_step (Kd.int .i64) (w0 := wr) wr.heap.size (by rfl) (.tmp 17) (.tmp 19) 22 3 (.int .i64 0) 8 rfl Try.underlying22 sol_infoI rfl (by decide) (by omega) (.slice A1_ bl.length c1_) bl (12 - (j : Int)) [.int .i64 (12 - (j : Int))] (fun _ => True) (fun _ => False) rfl rfl rfl (fun _ hk => hk.elim) (fun _ _ => trivial) HO1.out HB1.out (below_size HB1.out) (by have := HBL.out; omega) ?_; intro v3 w3 ho hb hgr hat; rw [← HY.out] at ho; obtain ⟨A3_, c3_, ev3⟩ := Kd.R_slice ho; subst ev3; have HO3 := Aside0.mk ho; have HB3 := Aside0.mk hb; have QN := Aside0.mk (show (w3.heap[g6]? = some (.cells #[.func (.func 79) #[] #[.pointer (some ⟨g2, 0, none⟩), .pointer (some ⟨g6, 0, none⟩), .pointer (some ⟨g3, 0, none⟩), .pointer (some ⟨g5, 0, none⟩)]] 84 (0, 0)) ∧ w3.heap[W.heap.size]? = some (.cells #[.slice Ab bl.length cb] 22 (0, 0))) from ⟨blk_below Q0.out.1 HB3.out, blk_below Q0.out.2 HB3.out⟩); clear QB; have QB := QN; clear QN ho hb hgr hat)  | (refine Kd.R_append_rows_step (Kd.int .i64) (w0 := wr) wr.heap.size (by rfl) (.tmp 17) (.tmp 19) 22 3 (.int .i64 0) 8 rfl Try.underlying22 sol_infoI rfl (by decide) (by omega) (.slice A1_ bl.length c1_) bl [12 - (j : Int)] (some ⟨wr.heap.size, 0, none⟩) 1 1 (fun _ => True) (fun _ => False) rfl rfl HO1.out HLIT.out (fun _ _ h => h) (fun _ h => h.elim) (fun _ _ => trivial) HB1.out (below_size HB1.out) (by have := HBL.out; omega) ?_; intro v3 w3 ho hb hgr hat; rw [← HY.out] at ho; obtain ⟨A3_, c3_, ev3⟩ := Kd.R_slice ho; subst ev3; have HO3 := Aside0.mk ho; have HB3 := Aside0.mk hb; have QN := Aside0.mk (show (w3.heap[g6]? = some (.cells #[.func (.func 79) #[] #[.pointer (some ⟨g2, 0, none⟩), .pointer (some ⟨g6, 0, none⟩), .pointer (some ⟨g3, 0, none⟩), .pointer (some ⟨g5, 0, none⟩)]] 84 (0, 0)) ∧ w3.heap[W.heap.size]? = some (.cells #[.slice Ab bl.length cb] 22 (0, 0))) from ⟨blk_below Q0.out.1 HB3.out, blk_below Q0.out.2 HB3.out⟩); clear QB; have QB := QN; clear QN ho hb hgr hat)  | (go_at_fn 79; refine (HIH.out w3 v' A3_ c3_ ys y x HYP.out HYL.out (HXr.out.below HB3.out) (below_step HBr.out HB3.out) (blk_below HGr.out HB3.out) (Kd.S_mono (Kd.S_elder' (v := .slice A3_ y.length c3_) HSr.out (Kd.R_base HO3.out) HB3.out) (fun _ hk => hk.2)) (Kd.R_lower HO3.out (below_size HBr.out)) HXL.out HXX.out).mono ?_; rintro e w4 ⟨rfl, v4, hG4, hS4, hB4, hK4⟩; have HK4 := Aside0.mk ((SolStep.below HB3.out v' g5).trans hK4); have HG4 := Aside0.mk hG4; have HS4 := Aside0.mk hS4; have HB4 := Aside0.mk hB4; have QN := Aside0.mk (show (w4.heap[g6]? = some (.cells #[.func (.func 79) #[] #[.pointer (some ⟨g2, 0, none⟩), .pointer (some ⟨g6, 0, none⟩), .pointer (some ⟨g3, 0, none⟩), .pointer (some ⟨g5, 0, none⟩)]] 84 (0, 0)) ∧ w4.heap[W.heap.size]? = some (.cells #[.slice Ab bl.length cb] 22 (0, 0))) from ⟨(SolBoxes.step HXr.out HK4.out HGr.out HSr.out).2.1, HK4.out.kept Q0.out.2 (blk_ne Q0.out.2 HGr.out (by decide)) HQr.out.2⟩); clear QB; have QB := QN; clear QN hG4 hS4 hB4 hK4))
        all_goals
          go_wp2
          go_roundg j
          case measure => omega
          case rel => exact ⟨j, v4, ys ++ x, y0, Nat.le_refl _, by omega, by go_num, ⟨HY0.out, HNX.out⟩, HG4, HS4, HB4, ⟨HKr.out.trans HK4.out⟩, ⟨QB.out.2, HK4.out.apart Q0.out.2 HQr.out.2⟩⟩
set_option maxHeartbeats 4000000 in
set_option maxRecDepth 100000 in
theorem impl_solutions.calls (k : Nat) (a0 : Int) (A1 : Option Addr) (c1 : Nat) (l1 : List (S55)) (r : List (List Int)) (w : World) (hr1 : Kd.C k55 w A1 l1.length l1) (hc1 : l1.length ≤ c1) (h : impl_solutions.f k a0 l1 = some r) :
    Calls Try.prog 57 #[.int .i64 a0, .slice A1 l1.length c1] w fun e w' => ∃ v0_ : Value, e = .returned (v0_) ∧ Kd.S (Kd.slice 3 (Kd.int .i64)) 22 w' w.heap.size (fun _ => True) v0_ r ∧ Below w.heap.size w w' := by
  unfold impl_solutions.f at h
  by_cases hp : 0 ≤ a0 ∧ a0 ≤ 3
  · rw [if_pos hp] at h
    obtain ⟨x, hx, h⟩ := Option.bind_eq_some_iff.mp h
    by_cases hl : x.length ≤ 1000000
    · rw [if_pos hl] at h
      obtain rfl := Option.some.inj h
      obtain ⟨n, hn⟩ : ∃ n : Nat, a0 = (n : Int) := ⟨a0.toNat, by omega⟩
      subst hn
      rw [Int.toNat_natCast] at hx
      have hn3 : n ≤ 1000 := by omega
      have eg : ∀ args w, (callFunc 79 args).run Try.prog w = .ok (.enter 79 args) w := enters_of Try.func79 (by kernel_rfl) rfl
      have HC := Aside0.mk (fun (W : World) (g2 g6 g3 g5 : Nat) (v : Value) hg hX hB hG hS => impl_solutions.put_calls k A1 c1 l1 w hr1 hc1 (n : Int) g2 g6 g3 g5 hg n W v none 0 [] [] x (by simp) (by simp; exact hn3) hX hB hG hS (Kd.R_nil _ _ _ _ _) (by simp; exact hl) hx)
      clear hr1 hc1 hx hl hp h hn3
      go_enter Try.func57, Try.ntmps57
      go_wp2_with (first | ((with_reducible refine gate_dst (N := 7) rfl ?_); refine Kd.S_lit (Kd.slice 3 (Kd.int .i64)) (w0 := w) w.heap.size 22 ?hg (N := 7) ?hd (xs := ([] : List (List Int))) (inner := []) (ok := fun _ => True) (okp := fun _ => True) ?hr ?hp (fun _ hk => hk) trivial (below_alloc (below_alloc (Below.refl _ _) _) _) (by simp; omega) (by simp) ?_; (case hd => rfl); (case hg => rfl); (case hr => first | (go_simp; done) | (go_simp; rfl)); (case hp => exact (Reps.none _ _)); intro v w4 ho hb hgr hnew; obtain ⟨Av, cv, ev⟩ := Kd.S_slice ho; subst ev; have HO := Aside0.mk (show Kd.S (Kd.slice 3 (Kd.int .i64)) 22 w4 w.heap.size (fun _ => True) (.slice Av 0 cv) [] from ho); have HB4 := Aside0.mk hb; have HG4 := Aside0.mk hgr; clear ho hb hgr hnew) | ((with_reducible refine gate_dst (N := 6) rfl ?_); refine box_event ?hg (N := 6) ?hd (cs := #[.nilFunc]) (t := 84) ?hr ?_; (case hd => rfl); (case hg => rfl); (case hr => first | (go_simp; done) | (go_simp; rfl)); intro g6 hg6 w5 hbox hb5; have HG6 := Aside0.mk hg6; have HB5 := Aside0.mk hb5; have BK6 := Aside0.mk hbox; have hcz6 : w5.cell? ⟨g6, 0, none⟩ = some .nilFunc := (blk_cell hbox 0).trans rfl; have hfz6 := blk_frozen hbox 0; clear hg6 hb5 hbox))
      have hgs : w.heap.size ≤ w4.heap.size := below_size HB4.out
      have e6 : g6 = w4.heap.size + 1 := by rw [HG6.out]; simp
      have hk2 : w4.heap[w.heap.size]? = some (.cells #[.int .i64 (n : Int)] 3 (0, 0)) := blk_grown (blk_alloc (heap_alloc_new w _) _) HG4.out (by simp)
      have hk3 : w4.heap[w.heap.size + 1]? = some (.cells #[.slice A1 l1.length c1] 28 (0, 0)) := blk_grown (by have := heap_alloc_new (w.alloc (.cells #[.int .i64 (n : Int)] 3)) (.cells #[.slice A1 l1.length c1] 28); simpa using this) HG4.out (by simp)
      have hk5 : w5.heap[w4.heap.size]? = some (.cells #[.slice Av 0 cv] 40 (0, 0)) := blk_below (heap_alloc_new w4 _) HB5.out
      have hlt2 := blk_lt hk2
      have hlt3 := blk_lt hk3
      have hW := below_alloc (Below.refl w4.heap.size w4) (.cells #[.slice Av 0 cv] 40)
      have hB5 := below_then hW hW.size HB5.out
      have HCC := Aside0.mk (HC.out (w5.setCell ⟨g6, 0, none⟩ (.func (.func 79) #[] #[.pointer (some ⟨w.heap.size, 0, none⟩), .pointer (some ⟨g6, 0, none⟩), .pointer (some ⟨w.heap.size + 1, 0, none⟩), .pointer (some ⟨w4.heap.size, 0, none⟩)])) w.heap.size g6 (w.heap.size + 1) w4.heap.size (.slice Av 0 cv) hgs ⟨blk_far (blk_below hk2 hB5) (by show w.heap.size ≠ g6; omega) _, blk_put BK6.out 0 _ rfl, blk_far (blk_below hk3 hB5) (by show w.heap.size + 1 ≠ g6; omega) _⟩ (below_set (below_step HB4.out hB5) (by omega)) (blk_far hk5 (by show w4.heap.size ≠ g6; omega) _) (Kd.S_set (Kd.S_mono (Kd.S_below HO.out hB5) (fun k _ => by simp [Value.ownBlock])) BK6.out (by decide) 0 _))
      have hz6 : (w5.setCell ⟨g6, 0, none⟩ (.func (.func 79) #[] #[.pointer (some ⟨w.heap.size, 0, none⟩), .pointer (some ⟨g6, 0, none⟩), .pointer (some ⟨w.heap.size + 1, 0, none⟩), .pointer (some ⟨w4.heap.size, 0, none⟩)])).cell? ⟨g6, 0, none⟩ = some (.func (.func 79) #[] #[.pointer (some ⟨w.heap.size, 0, none⟩), .pointer (some ⟨g6, 0, none⟩), .pointer (some ⟨w.heap.size + 1, 0, none⟩), .pointer (some ⟨w4.heap.size, 0, none⟩)]) := (blk_cell (blk_put BK6.out 0 _ rfl) 0).trans rfl
      clear e6 hk2 hk3 hk5 hlt2 hlt3 hW hB5 hgs
      go_wp2_with fail
      refine HCC.out.mono ?_
      rintro e w7 ⟨rfl, v7, hG7, hS7, hB7, hK7⟩
      have HG7 := Aside0.mk hG7
      have HS7 := Aside0.mk hS7
      have HB7 := Aside0.mk hB7
      clear hG7 hS7 hB7 hK7
      obtain ⟨Aw, cw, ew⟩ := Kd.S_slice HS7.out
      subst ew
      have hcz7 : w7.cell? ⟨w4.heap.size, 0, none⟩ = some (.slice Aw ([] ++ x).length cw) := (blk_cell HG7.out 0).trans rfl
      have hfz7 := blk_frozen HG7.out 0
      go_wp2
      go_ret
      exact ⟨_, rfl, HS7.out, HB7.out⟩
    · rw [if_neg hl] at h
      cases h
  · rw [if_neg hp] at h
    cases h

/-! ### impl_Puzzle_all: function 54 -/
def impl_Puzzle_all.f (k : Nat) (a0_0 : Int) (l0_1 : List (S55)) : Option ((List (List Int))) := (impl_solutions.f k a0_0 l0_1).bind fun t216 => (some t216)
theorem impl_Puzzle_all.mono : ∀ a0 a1 k, LeO (impl_Puzzle_all.f k a0 a1) (impl_Puzzle_all.f (k + 1) a0 a1) := by
  intro a0 a1 k
  unfold impl_Puzzle_all.f
  repeat' first
      | (with_reducible exact impl_solutions.mono _ _ _)
      | (with_reducible exact LeO.refl _)
      | (with_reducible exact LeO.none _)
      | (with_reducible refine LeO.ite ?_ ?_)
      | (with_reducible refine LeO.bind ?_ (fun _ => ?_))
      | exact impl_solutions.mono _ _ _
      | exact LeO.none _
      | refine LeO.ite ?_ ?_
      | refine LeO.bind ?_ (fun _ => ?_)
set_option maxHeartbeats 8000000 in
set_option maxRecDepth 100000 in
theorem impl_Puzzle_all.calls (k : Nat) (a0_0 : Int) (A0_1 : Option Addr) (c0_1 : Nat) (l0_1 : List (S55)) (r : List (List Int)) (w : World) (hr0_1 : Kd.C k55 w A0_1 l0_1.length l0_1) (hc0_1 : l0_1.length ≤ c0_1) (h : impl_Puzzle_all.f k a0_0 l0_1 = some r) :
    Calls Try.prog 54 #[.agg #[.int .i64 a0_0, .slice A0_1 l0_1.length c0_1]] w fun e w' => ∃ v0_ : Value, e = .returned (v0_) ∧ Kd.S (Kd.slice 3 (Kd.int .i64)) 22 w' w.heap.size (fun _ => True) v0_ r ∧ Below w.heap.size w w' := by
  have hu30 := Try.underlying30
  have HR0_1 := Aside0.mk hr0_1
  have HC0_1 := Aside0.mk hc0_1
  clear hr0_1 hc0_1
  have HB := Aside0.mk (Below.refl w.heap.size w)
  have H : ((impl_solutions.f k a0_0 l0_1).bind fun t216 => (some t216)) = some r := h
  clear h
  replace H := Option.bind_eq_some_iff.mp H
  obtain ⟨t216, A20, H⟩ := H
  replace H : (some t216) = some r := H
  have A2 := Aside0.mk A20
  clear A20
  obtain rfl := Option.some.inj H
  go_enter Try.func54, Try.ntmps54
  go_wp2_with (first | ((with_reducible refine gate_dst (N := 1) rfl ?_); refine box_event ?hg (N := 1) ?hd (cs := #[.int .i64 a0_0, .slice A0_1 l0_1.length c0_1]) (t := 30) ?hr ?_; (case hd => rfl); (case hg => rfl); (case hr => first | (go_simp; done) | (go_simp; rfl)); intro gb215 hg w3 hbox hb; have n0_ := Aside0.mk (below_step (by repeat (first | (with_reducible first | exact HB.out | apply below_alloc | apply pw_below_drewN | apply below_drew1) | exact HB.out)) hb); have n1_ := Aside0.mk (hbox); have n2_ := Aside0.mk ((by rw [hg]; exact (below_size (by repeat (first | (with_reducible first | exact HB.out | apply below_alloc | apply pw_below_drewN | apply below_drew1) | exact HB.out))) : w.heap.size ≤ gb215)); have n3_ := Aside0.mk ((by rw [hg]; exact (below_size (by repeat (first | (with_reducible first | exact HB.out | apply below_alloc | apply pw_below_drewN | apply below_drew1) | exact HB.out))) : w.heap.size ≤ gb215)); clear HB; have HB := n0_; have BK215 := n1_; have GW215 := n2_; have GE215 := n3_; clear n0_ n1_ n2_ n3_; clear hb hbox hg; have hcz4_0 : w3.cell? ⟨gb215, 0, none⟩ = some (.int .i64 a0_0) := (blk_cell BK215.out 0).trans rfl; have hcz4_1 : w3.cell? ⟨gb215, 1, none⟩ = some (.slice A0_1 l0_1.length c0_1) := (blk_cell BK215.out 1).trans rfl; have hfz4_0 := blk_frozen BK215.out 0; have hfz4_1 := blk_frozen BK215.out 1) | ((with_reducible refine gate_callee (f := 57) rfl ?_); refine goesL_ (some 7) rfl rfl Try.func57 (by kernel_rfl) rfl #[.int .i64 a0_0, .slice A0_1 l0_1.length c0_1] rfl (by (try simp only [List.map_toArray, List.map_cons, List.map_nil]); first | done | rfl | (simp only [List.length_drop, List.length_take]; rfl)) ?_; (with_reducible refine (impl_solutions.calls k a0_0 _ _ l0_1 t216 _ ?side1 ?side2 A2.out).mono ?_); (case side1 => repeat (first | exact (Kd.C_below HR0_1.out HB.out) | (with_reducible refine Kd.C_alloc ?_ _) | (with_reducible refine Kd.C_drewN ?_ _) | (with_reducible refine Kd.C_drew ?_))); (case side2 => exact HC0_1.out); rintro e w5 ⟨v217, rfl, ho0, hb⟩; refine ⟨_, rfl, ?_⟩; have n0_ := Aside0.mk (Kd.S_lower ho0 (below_size (by repeat (first | (with_reducible first | exact HB.out | apply below_alloc | apply pw_below_drewN | apply below_drew1 | refine below_set ?_ GE215.out) | exact HB.out)))); have n1_ := Aside0.mk (blk_below (g := gb215) (o := .cells #[.int .i64 a0_0, .slice A0_1 l0_1.length c0_1] 30 (0, 0)) (by (with_reducible repeat (first | refine blk_drewN ?_ _ | refine blk_drew ?_ | refine blk_alloc ?_ _)); exact BK215.out) hb); have n2_ := Aside0.mk (below_step (by repeat (first | (with_reducible first | exact HB.out | apply below_alloc | apply pw_below_drewN | apply below_drew1 | refine below_set ?_ GE215.out) | exact HB.out)) hb); clear BK215; clear HB; have HO218 := n0_; have BK215 := n1_; have HB := n2_; clear n0_ n1_ n2_; (try clear hb); (try clear hb2); (try clear hk); (try clear hi); (try clear ho0)))
  go_ret
  exact ⟨_, by first | rfl | (simp [errW_none, errW_some] <;> rfl) | (simp [*, errW_none, errW_some] <;> rfl), by (with_reducible repeat (first | apply Kd.S_alloc | apply Kd.S_drewN | apply Kd.S_drew)); exact HO218.out, by repeat (first | (with_reducible first | exact HB.out | apply below_alloc | apply pw_below_drewN | apply below_drew1 | refine below_set ?_ GE215.out) | exact HB.out)⟩

/-! ### impl_Solutions: function 23 -/
def impl_Solutions.f (k : Nat) (a0_0 : Int) (l0_1 : List (S55)) : Option ((List (List Int)) × Bool) := (impl_IsPuzzle.f k a0_0 l0_1).bind fun t220 => (if t220 = true then ((impl_Puzzle_all.f k a0_0 l0_1).bind fun t221 => (some (t221, true))) else (some (([] : List (List Int)), false)))
theorem impl_Solutions.mono : ∀ a0 a1 k, LeO (impl_Solutions.f k a0 a1) (impl_Solutions.f (k + 1) a0 a1) := by
  intro a0 a1 k
  unfold impl_Solutions.f
  repeat' first
      | (with_reducible exact impl_IsPuzzle.mono _ _ _)
      | (with_reducible exact impl_Puzzle_all.mono _ _ _)
      | (with_reducible exact LeO.refl _)
      | (with_reducible exact LeO.none _)
      | (with_reducible refine LeO.ite ?_ ?_)
      | (with_reducible refine LeO.bind ?_ (fun _ => ?_))
      | exact impl_IsPuzzle.mono _ _ _
      | exact impl_Puzzle_all.mono _ _ _
      | exact LeO.none _
      | refine LeO.ite ?_ ?_
      | refine LeO.bind ?_ (fun _ => ?_)
set_option maxHeartbeats 8000000 in
set_option maxRecDepth 100000 in
theorem impl_Solutions.calls (k : Nat) (a0_0 : Int) (A0_1 : Option Addr) (c0_1 : Nat) (l0_1 : List (S55)) (r1 : List (List Int)) (r2 : Bool) (w : World) (hr0_1 : Kd.C k55 w A0_1 l0_1.length l0_1) (hc0_1 : l0_1.length ≤ c0_1) (h : impl_Solutions.f k a0_0 l0_1 = some (r1, r2)) :
    Calls Try.prog 23 #[.agg #[.int .i64 a0_0, .slice A0_1 l0_1.length c0_1]] w fun e w' => ∃ v0_ : Value, e = .returned (.tuple #[v0_, .bool r2]) ∧ Kd.S (Kd.slice 3 (Kd.int .i64)) 22 w' w.heap.size (fun _ => True) v0_ r1 ∧ Below w.heap.size w w' := by
  have hu30 := Try.underlying30
  have HR0_1 := Aside0.mk hr0_1
  have HC0_1 := Aside0.mk hc0_1
  clear hr0_1 hc0_1
  have HB := Aside0.mk (Below.refl w.heap.size w)
  have H : ((impl_IsPuzzle.f k a0_0 l0_1).bind fun t220 => (if t220 = true then ((impl_Puzzle_all.f k a0_0 l0_1).bind fun t221 => (some (t221, true))) else (some (([] : List (List Int)), false)))) = some (r1, r2) := h
  clear h
  replace H := Option.bind_eq_some_iff.mp H
  obtain ⟨t220, A20, H⟩ := H
  replace H : (if t220 = true then ((impl_Puzzle_all.f k a0_0 l0_1).bind fun t221 => (some (t221, true))) else (some (([] : List (List Int)), false))) = some (r1, r2) := H
  have A2 := Aside0.mk A20
  clear A20
  by_cases c3 : t220 = true
  · subst c3
    have H1 : ((impl_Puzzle_all.f k a0_0 l0_1).bind fun t221 => (some (t221, true))) = some (r1, r2) := by rw [if_pos rfl] at H; exact H
    clear H
    have H := H1
    clear H1
    replace H := Option.bind_eq_some_iff.mp H
    obtain ⟨t221, A40, H⟩ := H
    replace H : (some (t221, true)) = some (r1, r2) := H
    have A4 := Aside0.mk A40
    clear A40
    simp only [Option.some.injEq, Prod.mk.injEq] at H
    obtain ⟨rfl, rfl⟩ := H
    go_enter Try.func23, Try.ntmps23
    go_wp2_with (first | ((with_reducible refine gate_dst (N := 1) rfl ?_); refine box_event ?hg (N := 1) ?hd (cs := #[.int .i64 a0_0, .slice A0_1 l0_1.length c0_1]) (t := 30) ?hr ?_; (case hd => rfl); (case hg => rfl); (case hr => first | (go_simp; done) | (go_simp; rfl)); intro gb219 hg w5 hbox hb; have n0_ := Aside0.mk (below_step (by repeat (first | (with_reducible first | exact HB.out | apply below_alloc | apply pw_below_drewN | apply below_drew1) | exact HB.out)) hb); have n1_ := Aside0.mk (hbox); have n2_ := Aside0.mk ((by rw [hg]; exact (below_size (by repeat (first | (with_reducible first | exact HB.out | apply below_alloc | apply pw_below_drewN | apply below_drew1) | exact HB.out))) : w.heap.size ≤ gb219)); have n3_ := Aside0.mk ((by rw [hg]; exact (below_size (by repeat (first | (with_reducible first | exact HB.out | apply below_alloc | apply pw_below_drewN | apply below_drew1) | exact HB.out))) : w.heap.size ≤ gb219)); clear HB; have HB := n0_; have BK219 := n1_; have GW219 := n2_; have GE219 := n3_; clear n0_ n1_ n2_ n3_; clear hb hbox hg; have hcz6_0 : w5.cell? ⟨gb219, 0, none⟩ = some (.int .i64 a0_0) := (blk_cell BK219.out 0).trans rfl; have hcz6_1 : w5.cell? ⟨gb219, 1, none⟩ = some (.slice A0_1 l0_1.length c0_1) := (blk_cell BK219.out 1).trans rfl; have hfz6_0 := blk_frozen BK219.out 0; have hfz6_1 := blk_frozen BK219.out 1) | ((with_reducible refine gate_callee (f := 53) rfl ?_); refine goesL_ (some 5) rfl rfl Try.func53 (by kernel_rfl) rfl #[.agg #[.int .i64 a0_0, .slice A0_1 l0_1.length c0_1]] rfl (by (try simp only [List.map_toArray, List.map_cons, List.map_nil]); first | done | rfl | (simp only [List.length_drop, List.length_take]; rfl)) ?_; (with_reducible refine (impl_IsPuzzle.calls k a0_0 _ _ l0_1 true _ ?side1 ?side2 A2.out).mono ?_); (case side1 => repeat (first | exact (Kd.C_below HR0_1.out HB.out) | (with_reducible refine Kd.C_alloc ?_ _) | (with_reducible refine Kd.C_drewN ?_ _) | (with_reducible refine Kd.C_drew ?_))); (case side2 => exact HC0_1.out); rintro e w7 ⟨rfl, hb⟩; refine ⟨_, rfl, ?_⟩; have n0_ := Aside0.mk (blk_below (g := gb219) (o := .cells #[.int .i64 a0_0, .slice A0_1 l0_1.length c0_1] 30 (0, 0)) (by (with_reducible repeat (first | refine blk_drewN ?_ _ | refine blk_drew ?_ | refine blk_alloc ?_ _)); exact BK219.out) hb); have n1_ := Aside0.mk (below_step (by repeat (first | (with_reducible first | exact HB.out | apply below_alloc | apply pw_below_drewN | apply below_drew1 | refine below_set ?_ GE219.out) | exact HB.out)) hb); clear BK219; clear HB; have BK219 := n0_; have HB := n1_; clear n0_ n1_; (try clear hb); (try clear hb2); (try clear hk); (try clear hi); have hcz8_0 : w7.cell? ⟨gb219, 0, none⟩ = some (.int .i64 a0_0) := (blk_cell BK219.out 0).trans rfl; have hcz8_1 : w7.cell? ⟨gb219, 1, none⟩ = some (.slice A0_1 l0_1.length c0_1) := (blk_cell BK219.out 1).trans rfl; have hfz8_0 := blk_frozen BK219.out 0; have hfz8_1 := blk_frozen BK219.out 1) | ((with_reducible refine gate_callee (f := 54) rfl ?_); refine goesL_ (some 8) rfl rfl Try.func54 (by kernel_rfl) rfl #[.agg #[.int .i64 a0_0, .slice A0_1 l0_1.length c0_1]] rfl (by (try simp only [List.map_toArray, List.map_cons, List.map_nil]); first | done | rfl | (simp only [List.length_drop, List.length_take]; rfl)) ?_; (with_reducible refine (impl_Puzzle_all.calls k a0_0 _ _ l0_1 t221 _ ?side1 ?side2 A4.out).mono ?_); (case side1 => repeat (first | exact (Kd.C_below HR0_1.out HB.out) | (with_reducible refine Kd.C_alloc ?_ _) | (with_reducible refine Kd.C_drewN ?_ _) | (with_reducible refine Kd.C_drew ?_))); (case side2 => exact HC0_1.out); rintro e w9 ⟨v222, rfl, ho0, hb⟩; refine ⟨_, rfl, ?_⟩; have n0_ := Aside0.mk (Kd.S_lower ho0 (below_size (by repeat (first | (with_reducible first | exact HB.out | apply below_alloc | apply pw_below_drewN | apply below_drew1 | refine below_set ?_ GE219.out) | exact HB.out)))); have n1_ := Aside0.mk (blk_below (g := gb219) (o := .cells #[.int .i64 a0_0, .slice A0_1 l0_1.length c0_1] 30 (0, 0)) (by (with_reducible repeat (first | refine blk_drewN ?_ _ | refine blk_drew ?_ | refine blk_alloc ?_ _)); exact BK219.out) hb); have n2_ := Aside0.mk (below_step (by repeat (first | (with_reducible first | exact HB.out | apply below_alloc | apply pw_below_drewN | apply below_drew1 | refine below_set ?_ GE219.out) | exact HB.out)) hb); clear BK219; clear HB; have HO223 := n0_; have BK219 := n1_; have HB := n2_; clear n0_ n1_ n2_; (try clear hb); (try clear hb2); (try clear hk); (try clear hi); (try clear ho0)))
    go_ret2
    exact ⟨_, by first | rfl | (simp [errW_none, errW_some] <;> rfl) | (simp [*, errW_none, errW_some] <;> rfl), by (with_reducible repeat (first | apply Kd.S_alloc | apply Kd.S_drewN | apply Kd.S_drew)); exact HO223.out, by repeat (first | (with_reducible first | exact HB.out | apply below_alloc | apply pw_below_drewN | apply below_drew1 | refine below_set ?_ GE219.out) | exact HB.out)⟩
  · replace c3 := Bool.eq_false_iff.mpr c3
    subst c3
    have H1 : (some (([] : List (List Int)), false)) = some (r1, r2) := by rw [if_neg (show ¬ (false = true) by decide)] at H; exact H
    clear H
    have H := H1
    clear H1
    simp only [Option.some.injEq, Prod.mk.injEq] at H
    obtain ⟨rfl, rfl⟩ := H
    go_enter Try.func23, Try.ntmps23
    go_wp2_with (first | ((with_reducible refine gate_dst (N := 1) rfl ?_); refine box_event ?hg (N := 1) ?hd (cs := #[.int .i64 a0_0, .slice A0_1 l0_1.length c0_1]) (t := 30) ?hr ?_; (case hd => rfl); (case hg => rfl); (case hr => first | (go_simp; done) | (go_simp; rfl)); intro gb219 hg w10 hbox hb; have n0_ := Aside0.mk (below_step (by repeat (first | (with_reducible first | exact HB.out | apply below_alloc | apply pw_below_drewN | apply below_drew1) | exact HB.out)) hb); have n1_ := Aside0.mk (hbox); have n2_ := Aside0.mk ((by rw [hg]; exact (below_size (by repeat (first | (with_reducible first | exact HB.out | apply below_alloc | apply pw_below_drewN | apply below_drew1) | exact HB.out))) : w.heap.size ≤ gb219)); have n3_ := Aside0.mk ((by rw [hg]; exact (below_size (by repeat (first | (with_reducible first | exact HB.out | apply below_alloc | apply pw_below_drewN | apply below_drew1) | exact HB.out))) : w.heap.size ≤ gb219)); clear HB; have HB := n0_; have BK219 := n1_; have GW219 := n2_; have GE219 := n3_; clear n0_ n1_ n2_ n3_; clear hb hbox hg; have hcz11_0 : w10.cell? ⟨gb219, 0, none⟩ = some (.int .i64 a0_0) := (blk_cell BK219.out 0).trans rfl; have hcz11_1 : w10.cell? ⟨gb219, 1, none⟩ = some (.slice A0_1 l0_1.length c0_1) := (blk_cell BK219.out 1).trans rfl; have hfz11_0 := blk_frozen BK219.out 0; have hfz11_1 := blk_frozen BK219.out 1) | ((with_reducible refine gate_callee (f := 53) rfl ?_); refine goesL_ (some 5) rfl rfl Try.func53 (by kernel_rfl) rfl #[.agg #[.int .i64 a0_0, .slice A0_1 l0_1.length c0_1]] rfl (by (try simp only [List.map_toArray, List.map_cons, List.map_nil]); first | done | rfl | (simp only [List.length_drop, List.length_take]; rfl)) ?_; (with_reducible refine (impl_IsPuzzle.calls k a0_0 _ _ l0_1 false _ ?side1 ?side2 A2.out).mono ?_); (case side1 => repeat (first | exact (Kd.C_below HR0_1.out HB.out) | (with_reducible refine Kd.C_alloc ?_ _) | (with_reducible refine Kd.C_drewN ?_ _) | (with_reducible refine Kd.C_drew ?_))); (case side2 => exact HC0_1.out); rintro e w12 ⟨rfl, hb⟩; refine ⟨_, rfl, ?_⟩; have n0_ := Aside0.mk (blk_below (g := gb219) (o := .cells #[.int .i64 a0_0, .slice A0_1 l0_1.length c0_1] 30 (0, 0)) (by (with_reducible repeat (first | refine blk_drewN ?_ _ | refine blk_drew ?_ | refine blk_alloc ?_ _)); exact BK219.out) hb); have n1_ := Aside0.mk (below_step (by repeat (first | (with_reducible first | exact HB.out | apply below_alloc | apply pw_below_drewN | apply below_drew1 | refine below_set ?_ GE219.out) | exact HB.out)) hb); clear BK219; clear HB; have BK219 := n0_; have HB := n1_; clear n0_ n1_; (try clear hb); (try clear hb2); (try clear hk); (try clear hi)))
    go_ret2
    exact ⟨_, by first | rfl | (simp [errW_none, errW_some] <;> rfl) | (simp [*, errW_none, errW_some] <;> rfl), by first | exact Kd.S_nil _ _ _ _ _ | exact Kd.N_nil _ _ _ _ _ | exact Kd.V_nil _ _ _ _ _ | exact Kd.Q_nil _ _ _ _ _ | exact Kd.R_nil _ _ _ _ _, by repeat (first | (with_reducible first | exact HB.out | apply below_alloc | apply pw_below_drewN | apply below_drew1 | refine below_set ?_ GE219.out) | exact HB.out)⟩

end Go.Proofs.Ytennnaibnlmjlaa.V
