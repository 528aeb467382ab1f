/- The walks of the Go functions that these laws reach: each is proved to do what a plain Lean function says. -/
import Derived.Test.YtennnaibnlmjlaaU0
import Derived.Test.YtennnaibnlmjlaaU3
import Derived.Test.YtennnaibnlmjlaaU7
namespace Go.Proofs.Ytennnaibnlmjlaa.U
open Go.RowKit Go.Proofs.YtennnaibnlmjlaaW.PrintWords Go.Proofs.YtennnaibnlmjlaaW.PrintLast Go.Proofs.YtennnaibnlmjlaaW.PrintMore
attribute [local go_sem] max2_int min2_int max_two min_two max_three min_three max_four min_four   -- for this text's walks alone
set_option linter.unusedVariables false
set_option linter.unusedSimpArgs false

/-! ### spec_pzAll: function 51 -/
/-! ### spec.pzLook: all hidden ages that fit some clues, told onto a list in memory -/
/-- Do ages fit all clues? -/
def allO_Clue (q : S55 → Option Bool) : List S55 → Option Bool
  | [] => some true
  | c :: t => (q c).bind fun b => if b = true then allO_Clue q t else some false
def spec_pzLook.leaf (k : Nat) (cl : List S55) (b : List Int) : Option (List (List Int)) := (allO_Clue (fun c => spec_pzFits.f k c.f0 c.f1 c.f2 b) cl).bind fun ok => some (if ok = true then [b] else [])
/-- The ages from 13 - n to 12, each behind b. -/
def spec_pzLook.ages (rec : List Int → Option (List (List Int))) (b : List Int) : Nat → Option (List (List Int))
  | 0 => some []
  | n + 1 => (rec (b ++ [12 - (n : Int)])).bind fun x => (spec_pzLook.ages rec b n).bind fun y => some (x ++ y)
def spec_pzLook.f (k : Nat) (cl : List S55) : Nat → List Int → Option (List (List Int))
  | 0, b => spec_pzLook.leaf k cl b
  | n + 1, b => spec_pzLook.ages (spec_pzLook.f k cl n) b 12
def spec_pzAll.f (k : Nat) (a0 : Int) (l1 : List S55) : Option (List (List Int)) := if 0 ≤ a0 ∧ a0 ≤ 3 then ((spec_pzLook.f k l1 a0.toNat []).bind fun r => if r.length ≤ 1000000 then some r else none) else none
theorem allO_Clue_mono {q q' : S55 → Option Bool} (h : ∀ c, LeO (q c) (q' c)) : ∀ l, LeO (allO_Clue q l) (allO_Clue q' l)
  | [] => LeO.refl _
  | c :: t => by
    unfold allO_Clue
    exact LeO.bind (h c) (fun b => LeO.ite (allO_Clue_mono h t) (LeO.refl _))
theorem spec_pzLook.ages_mono {g g' : List Int → Option (List (List Int))} (h : ∀ b, LeO (g b) (g' b)) (b : List Int) : ∀ n, LeO (spec_pzLook.ages g b n) (spec_pzLook.ages g' b n)
  | 0 => LeO.refl _
  | n + 1 => by
    unfold spec_pzLook.ages
    exact LeO.bind (h _) (fun _ => LeO.bind (spec_pzLook.ages_mono h b n) (fun _ => LeO.refl _))
theorem spec_pzLook.mono (k : Nat) (cl : List S55) : ∀ n b, LeO (spec_pzLook.f k cl n b) (spec_pzLook.f (k + 1) cl n b)
  | 0, b => by
    unfold spec_pzLook.f spec_pzLook.leaf
    exact LeO.bind (allO_Clue_mono (fun c => spec_pzFits.mono _ _ _ _ _) cl) (fun _ => LeO.refl _)
  | n + 1, b => by
    unfold spec_pzLook.f
    exact spec_pzLook.ages_mono (spec_pzLook.mono k cl n) b 12
theorem spec_pzAll.mono : ∀ a0 a1 k, LeO (spec_pzAll.f k a0 a1) (spec_pzAll.f (k + 1) a0 a1) := by
  intro a0 a1 k
  unfold spec_pzAll.f
  exact LeO.ite (LeO.bind (spec_pzLook.mono k a1 _ _) (fun _ => LeO.refl _)) (LeO.refl _)
theorem pz_infoI : (Try.prog.info? 3).map (fun i => (i.zero, i.size, i.bytes)) = some (some (.int .i64 0), 1, 8) := by kernel_rfl
theorem pz_infoS : (Try.prog.info? 22).map (fun i => (i.zero, i.size, i.bytes)) = some (some (.slice none 0 0), 1, 24) := by kernel_rfl
/-- Blocks of whole numbers stay. -/
def KeepI (W W' : World) : Prop := W.heap.size ≤ W'.heap.size ∧ ∀ (j : Nat) (cs : Array Value), W.heap[j]? = some (.cells cs 3 (0, 0)) → W'.heap[j]? = W.heap[j]?
theorem KeepI.refl (W : World) : KeepI W W := ⟨Nat.le_refl _, fun _ _ _ => rfl⟩
theorem KeepI.trans {W W1 W2 : World} (h : KeepI W W1) (h' : KeepI W1 W2) : KeepI W W2 := ⟨Nat.le_trans h.1 h'.1, fun j cs hc => by
  have h1 := h.2 j cs hc
  exact (h'.2 j cs (h1.trans hc)).trans h1⟩
theorem KeepI.below {W W1 : World} (h : Below W.heap.size W W1) : KeepI W W1 := ⟨h.size, fun j cs hc => h.block j (blk_lt hc)⟩
theorem KeepI.grown {W W1 : World} {row : Option Nat} (h : W.grownBy W1 row) (hr : ∀ j cs, row = some j → W.heap[j]? ≠ some (.cells cs 3 (0, 0))) : KeepI W W1 := ⟨h.size, fun j cs hc => h.block j (blk_lt hc) (fun e => hr j cs e.symm hc)⟩
theorem KeepI.setCell {W : World} {p : Addr} (u : Value) {cs : Array Value} {t : TypeId} {fr : Nat × Nat} (hp : W.heap[p.block]? = some (.cells cs t fr)) (ht : t ≠ 3) : KeepI W (W.setCell p u) := ⟨by simp, fun j cs' hc => by
  refine Below.heap_setCell W p u j (fun e => ?_)
  subst e
  rw [hp] at hc
  injection hc with hc
  injection hc with _ hc
  exact ht hc⟩
theorem KeepI.row {W W1 : World} {base : Nat} {ok : Nat → Prop} {v : Value} {xs : List Int} (hk : KeepI W W1) (h : Kd.R (Kd.int .i64) 3 W base ok v xs) : Kd.R (Kd.int .i64) 3 W1 base ok v xs :=
  Kd.R_mono (Kd.R_move (Kd.R_bound h) (fun k hk' => by
    obtain ⟨_, _, _, q, hq, cells, hc⟩ := hk'
    have hq3 : q = 3 := by simpa [Kd.int, Kd.scalar] using hq
    subst hq3
    exact hk.2 k cells hc)) (fun _ hk' => hk'.1)
theorem spec_pzLook.leaf_len (k : Nat) (cl : List S55) (b : List Int) (r : List (List Int)) (h : spec_pzLook.leaf k cl b = some r) : ∃ ok, allO_Clue (fun c => spec_pzFits.f k c.f0 c.f1 c.f2 b) cl = some ok ∧ r = if ok = true then [b] else [] := by
  obtain ⟨ok, h1, h2⟩ := Option.bind_eq_some_iff.mp h
  exact ⟨ok, h1, (Option.some.inj h2).symm⟩
theorem allO_Clue_at (q : S55 → Option Bool) (l : List S55) (k : Nat) (r : Bool) (h : allO_Clue q (l.drop k) = some r) (hk : k < l.length) : ∃ b, q (rd_T55 l k) = some b ∧ (b = false → r = false) ∧ (b = true → allO_Clue q (l.drop (k + 1)) = some r) := by
  rw [List.drop_eq_getElem_cons hk] at h
  unfold allO_Clue at h
  obtain ⟨b, h1, h2⟩ := Option.bind_eq_some_iff.mp h
  have e : rd_T55 l k = l[k] := by
    unfold rd_T55
    rw [Int.toNat_natCast, List.getD_eq_getElem?_getD, List.getElem?_eq_getElem hk, Option.getD_some]
  refine ⟨b, by rw [e]; exact h1, fun hb => ?_, fun hb => ?_⟩
  · subst hb
    simpa using h2.symm
  · subst hb
    simpa using h2
/-- What a call of pzLook leaves. -/
def spec_pzLook.Left (w0 W : World) (g : Nat) (xs : List (List Int)) (e : Ending) (W' : World) : Prop := e = .returned (.tuple #[]) ∧ ∃ v', W'.heap[g]? = some (.cells #[v'] 40 (0, 0)) ∧ Kd.S (Kd.slice 3 (Kd.int .i64)) 22 W' w0.heap.size (fun _ => True) v' xs ∧ Below w0.heap.size w0 W' ∧ KeepI W W'
theorem pz_at {w : World} {A : Option Addr} {n : Nat} {xs : List S55} (h : Kd.C k55 w A n xs) (i : Nat) (h1 : i < n) : ∃ ad : Addr, A = some ad ∧ w.cell? (ad.add (i * 3)) = some (.int .i64 (rd_T55 xs i).f0) ∧ w.cell? ⟨(ad.add (i * 3)).block, (ad.add (i * 3)).off + 1, none⟩ = some (.int .i64 (rd_T55 xs i).f1) ∧ w.cell? ⟨(ad.add (i * 3)).block, (ad.add (i * 3)).off + 2, none⟩ = some (.int .i64 (rd_T55 xs i).f2) := by
  obtain ⟨ad, c, e, _, hK, hc0⟩ := Kd.C_get h z55 (i : Int) (by omega) (by omega)
  rw [Int.toNat_natCast] at hK hc0
  have hc : ∀ j u, c[j]? = some u → w.cell? (ad.add (i * 3 + j)) = some u := hc0
  have hK2 : k55.K w (rd_T55 xs i) c := by unfold rd_T55; rw [Int.toNat_natCast]; exact hK
  obtain rfl := k55_open hK2
  exact ⟨ad, e, hc 0 _ rfl, by rw [← add_field _ _ 1 (by omega)]; exact hc 1 _ rfl, by rw [← add_field _ _ 2 (by omega)]; exact hc 2 _ rfl⟩
set_option maxHeartbeats 4000000 in
set_option maxRecDepth 100000 in
theorem spec_pzLook.leaf_calls (kk : Nat) (A1 : Option Addr) (c1 : Nat) (cl : List S55) (w0 : World) (hcl : Kd.C k55 w0 A1 cl.length cl) (hc1 : cl.length ≤ c1)
    (W : World) (g : Nat) (v : Value) (Ab : Option Addr) (cb : Nat) (xs : List (List Int)) (bl : List Int) (r : List (List Int)) (hB : Below w0.heap.size w0 W) (hg : w0.heap.size ≤ g) (hG : W.heap[g]? = some (.cells #[v] 40 (0, 0))) (hS : Kd.S (Kd.slice 3 (Kd.int .i64)) 22 W w0.heap.size (fun k => some k ≠ (Value.slice Ab bl.length cb).ownBlock) v xs) (hR : Kd.R (Kd.int .i64) 3 W w0.heap.size (fun _ => True) (.slice Ab bl.length cb) bl) (hlen : xs.length + r.length ≤ 1000000) (hf : spec_pzLook.leaf kk cl bl = some r) :
    Calls Try.prog 74 #[.int .i64 0, .slice A1 cl.length c1, .slice Ab bl.length cb, .pointer (some ⟨g, 0, none⟩)] W (spec_pzLook.Left w0 W g (xs ++ r)) := by
  have hu := Try.underlying55
  obtain ⟨ok, hok, hr⟩ := spec_pzLook.leaf_len kk cl bl r hf
  have HCL := Aside0.mk (Kd.C_below hcl hB)
  have hlen2 : cl.length ≤ 9223372036854775807 := hcl.2.1
  have HRb := Aside0.mk (Kd.R_reads' hR).2
  have HR := Aside0.mk hR
  have HS := Aside0.mk hS
  have HG := Aside0.mk hG
  have HB := Aside0.mk hB
  have Hg := Aside0.mk hg
  have HOK := Aside0.mk hok
  have HRR := Aside0.mk hr
  have HL := Aside0.mk hlen
  clear hcl hR hS hG hB hg hok hr hlen hf
  go_enter Try.func74, Try.ntmps74
  go_wp2
  go_loopg [10, 29] cl.length (fun gg _ s29 wr => ∃ kj : Nat, kj ≤ cl.length ∧ cl.length - kj ≤ gg ∧ s29 = .int .i64 kj ∧ Aside0 (Below W.heap.size W wr) ∧ Aside0 (allO_Clue (fun c => spec_pzFits.f kk c.f0 c.f1 c.f2 bl) (cl.drop kj) = some ok))
  case atStart => exact ⟨0, Nat.zero_le _, by omega, rfl, ⟨Below.refl _ _⟩, ⟨HOK.out⟩⟩
  case round =>
    obtain ⟨kj, hkk, hgg, rfl, HBr, HA⟩ := hrel
    by_cases hlt : kj < cl.length
    · have hltz : (kj : Int) < (cl.length : Int) := by omega
      obtain ⟨ad, ea, hx0, hx1, hx2⟩ := pz_at (Kd.C_below HCL.out HBr.out) kj hlt
      subst ea
      obtain ⟨b, hb1, hb2, hb3⟩ := allO_Clue_at _ cl kj ok HA.out hlt
      generalize hy : rd_T55 cl kj = y at hb1 hx0 hx1 hx2
      clear hy
      have HB1 := Aside0.mk hb1
      clear hb1
      have hside := Aside0.mk (Kd.C_alloc (Kd.C_below HRb.out.2 HBr.out) (.cells #[.int .i64 y.f0, .int .i64 y.f1, .int .i64 y.f2] 55))
      go_wp2_with fail
      refine (spec_pzFits.calls kk _ _ _ _ _ bl b _ hside.out HRb.out.1 HB1.out).mono ?_
      rintro e w' ⟨rfl, hb'⟩
      have HB2 := Aside0.mk (below_then (below_alloc HBr.out _) (below_alloc HBr.out _).size hb')
      clear hb' hside HB1
      cases b with
      | true =>
        have H3 := Aside0.mk (hb3 rfl)
        clear hb2 hb3
        go_wp2
        go_roundg (cl.length - (kj + 1))
        case measure => omega
        case rel => exact ⟨kj + 1, by omega, by omega, by go_num, HB2, ⟨H3.out⟩⟩
      | false =>
        have H3 := Aside0.mk (hb2 rfl)
        clear hb2 hb3
        have hr2 : r = [] := by rw [HRR.out, if_neg (by rw [H3.out]; decide)]
        have H4 := Aside0.mk hr2
        clear hr2
        go_wp2
        ((try simp only [Exit.inBlock, Exit.then]); refine bodyPost_ret (results_none rfl _ _ _) rfl ?_)
        refine ⟨rfl, v, blk_below HG.out HB2.out, ?_, below_step HB.out HB2.out, KeepI.below HB2.out⟩
        rw [H4.out, List.append_nil]
        exact Kd.S_mono (Kd.S_below HS.out HB2.out) (fun _ _ => trivial)
    · have hltz : ¬ (kj : Int) < (cl.length : Int) := by omega
      have hke : kj = cl.length := by omega
      have hr2 : r = [bl] := by
        have := HA.out
        rw [hke, List.drop_length] at this
        rw [HRR.out, if_pos (by simpa [allO_Clue] using this.symm)]
      have H4 := Aside0.mk hr2
      clear hr2
      have HG2 := Aside0.mk (blk_below HG.out HBr.out)
      have HS2 := Aside0.mk (Kd.S_below HS.out HBr.out)
      have HR2 := Aside0.mk (Kd.R_below HR.out HBr.out)
      obtain ⟨Av, cv, ev⟩ := Kd.S_slice HS2.out
      subst ev
      have hcz : wr.cell? ⟨g, 0, none⟩ = some (.slice Av xs.length cv) := (blk_cell HG2.out 0).trans rfl
      have hfz := blk_frozen HG2.out 0
      go_wp2_with ((with_reducible refine gate_builtin (b := .append) (xs := #[.tmp 41, .tmp 43]) rfl ?_); at_builtin; refine Kd.S_append (Kd.slice 3 (Kd.int .i64)) (w0 := w0) w0.heap.size rfl (.tmp 41) (.tmp 43) 40 22 (.slice none 0 0) 24 rfl Try.underlying40 pz_infoS rfl (by decide) (by omega) (.slice Av xs.length cv) xs bl [.slice Ab bl.length cb] (fun _ => True) (fun k_ => some k_ = (Value.slice Ab bl.length cb).ownBlock) rfl rfl (Kd.M_row (Kd.R_tight rfl HR2.out)) (fun k_ hk_ => ⟨trivial, ((Kd.R_apart' HR2.out (Kd.S_typed HS2.out) (by decide)).1 k_ hk_.symm).2⟩) (fun _ _ => trivial) (Kd.S_mono HS2.out (fun k_ hk_ => ⟨trivial, fun e_ => hk_ e_⟩)) (below_step HB.out HBr.out) (below_size (below_step HB.out HBr.out)) (by have := HL.out; rw [H4.out] at this; simp at this; omega) ?_; intro v1 w1 ho hb hgr hat; obtain ⟨Av1, cv1, ev1⟩ := Kd.S_slice ho; subst ev1; have HG3 := Aside0.mk (blk_grown HG2.out hgr (Kd.S_ne HS2.out HG2.out (by decide))); have hcz3 : w1.cell? ⟨g, 0, none⟩ = some (.slice Av xs.length cv) := (blk_cell HG3.out 0).trans rfl; have hfz3 := blk_frozen HG3.out 0; have HO := Aside0.mk ho; have HB3 := Aside0.mk hb; have HK3 := Aside0.mk (KeepI.grown hgr (fun j cs hj hcs => by obtain ⟨cells, hcc⟩ := Kd.S_typed HS2.out j hj; rw [hcc] at hcs; injection hcs with hcs; injection hcs with _ hcs; exact absurd hcs (by decide))); clear ho hb hgr hat)
      go_end0
      rw [H4.out]
      have HO2 : Kd.S (Kd.slice 3 (Kd.int .i64)) 22 w1 w0.heap.size (fun _ => True) (.slice Av1 (xs.length + 1) cv1) (xs ++ [bl]) := by
        have e_ : (xs ++ [bl]).length = xs.length + 1 := by simp
        rw [← e_]; exact HO.out
      exact ⟨rfl, _, blk_put HG3.out 0 _ rfl, Kd.S_set HO2 HG3.out (by decide) 0 _, below_set HB3.out Hg.out, ((KeepI.below HBr.out).trans HK3.out).trans (KeepI.setCell _ HG3.out (by decide))⟩
set_option maxHeartbeats 4000000 in
set_option maxRecDepth 100000 in
theorem spec_pzLook.calls (kk : Nat) (A1 : Option Addr) (c1 : Nat) (cl : List S55) (w0 : World) (hcl : Kd.C k55 w0 A1 cl.length cl) (hc1 : cl.length ≤ c1) :
    ∀ (n : Nat) (W : World) (g : Nat) (v : Value) (Ab : Option Addr) (cb : Nat) (xs : List (List Int)) (bl : List Int) (r : List (List Int)), bl.length + n ≤ 1000 → Below w0.heap.size w0 W → w0.heap.size ≤ g → W.heap[g]? = some (.cells #[v] 40 (0, 0)) → Kd.S (Kd.slice 3 (Kd.int .i64)) 22 W w0.heap.size (fun k => some k ≠ (Value.slice Ab bl.length cb).ownBlock) v xs → Kd.R (Kd.int .i64) 3 W w0.heap.size (fun _ => True) (.slice Ab bl.length cb) bl → xs.length + r.length ≤ 1000000 → spec_pzLook.f kk cl n bl = some r →
    Calls Try.prog 74 #[.int .i64 n, .slice A1 cl.length c1, .slice Ab bl.length cb, .pointer (some ⟨g, 0, none⟩)] W (spec_pzLook.Left w0 W g (xs ++ r)) := by
  intro n
  induction n with
  | zero =>
    intro W g v Ab cb xs bl r _ hB hg hG hS hR hlen hf
    exact spec_pzLook.leaf_calls kk A1 c1 cl w0 hcl hc1 W g v Ab cb xs bl r hB hg hG hS hR hlen hf
  | succ n ih =>
    intro W g v Ab cb xs bl r hbn hB hg hG hS hR hlen hf
    have HIH := Aside0.mk ih
    have HRb := Aside0.mk (Kd.R_reads' hR).2
    have HR := Aside0.mk hR
    have HS := Aside0.mk hS
    have HG := Aside0.mk hG
    have HB := Aside0.mk hB
    have Hg := Aside0.mk hg
    have HL := Aside0.mk hlen
    have HBN := Aside0.mk hbn
    replace hf : spec_pzLook.ages (spec_pzLook.f kk cl n) bl 12 = some r := hf
    have HF := Aside0.mk hf
    clear hcl ih hR hS hG hB hg hlen hf hbn
    have hn0 : ¬ (((n + 1 : Nat) : Int) ≤ 0) := by omega
    generalize hm : ((n + 1 : Nat) : Int) = m at hn0
    have hm0 : 0 < m := by omega
    have HM := Aside0.mk hm
    clear hm
    go_enter Try.func74, Try.ntmps74
    go_wp2
    go_loopg [8] 12 (fun gg s8 wr => ∃ (j : Nat) (v' : Value) (ys r' : List (List Int)), j ≤ gg ∧ j ≤ 12 ∧ s8 = .int .i64 (13 - (j : Int)) ∧ Aside0 (spec_pzLook.ages (spec_pzLook.f kk cl n) bl j = some r' ∧ ys ++ r' = xs ++ r) ∧ Aside0 (wr.heap[g]? = some (.cells #[v'] 40 (0, 0))) ∧ Aside0 (Kd.S (Kd.slice 3 (Kd.int .i64)) 22 wr w0.heap.size (fun _ => True) v' ys) ∧ Aside0 (Below w0.heap.size w0 wr) ∧ Aside0 (KeepI W wr))
    case atStart => exact ⟨12, v, xs, r, Nat.le_refl _, Nat.le_refl _, by simp, ⟨HF.out, rfl⟩, HG, ⟨Kd.S_mono HS.out (fun _ _ => trivial)⟩, HB, ⟨KeepI.refl _⟩⟩
    case round =>
      obtain ⟨j, v', ys, r', hjg, hj12, rfl, HA, HGr, HSr, HBr, HKr⟩ := hrel
      cases j with
      | zero =>
        have e0 : r' = [] := by have := HA.out.1; unfold spec_pzLook.ages at this; exact (Option.some.inj this).symm
        have e1 : ys = xs ++ r := by have := HA.out.2; rw [e0, List.append_nil] at this; exact this
        have E1 := Aside0.mk e1
        clear e0 e1
        go_wp2
        ((try simp only [Exit.inBlock, Exit.then]); refine bodyPost_end (results_none rfl _ _ _) rfl ?_)
        exact ⟨rfl, v', HGr.out, by rw [← E1.out]; exact HSr.out, HBr.out, HKr.out⟩
      | succ j =>
        obtain ⟨x, hx, y0, hy0, hr'⟩ : ∃ x, spec_pzLook.f kk cl n (bl ++ [12 - (j : Int)]) = some x ∧ ∃ y0, spec_pzLook.ages (spec_pzLook.f kk cl n) bl j = some y0 ∧ r' = x ++ y0 := by
          have h := HA.out.1
          unfold spec_pzLook.ages at h
          obtain ⟨x, hx, h⟩ := Option.bind_eq_some_iff.mp h
          obtain ⟨y0, hy0, h⟩ := Option.bind_eq_some_iff.mp h
          exact ⟨x, hx, y0, hy0, (Option.some.inj h).symm⟩
        obtain ⟨y, hy⟩ : ∃ y, y = bl ++ [12 - (j : Int)] := ⟨_, rfl⟩
        rw [← hy] at hx
        have hylen : y.length = bl.length + 1 := by rw [hy]; simp
        have hxl : ys.length + x.length ≤ 1000000 := by
          have h1 := congrArg List.length HA.out.2
          have h2 := HL.out
          rw [hr'] at h1
          simp only [List.length_append] at h1
          omega
        have hyl : y.length + n ≤ 1000 := by have := HBN.out; omega
        have hnext : ys ++ x ++ y0 = xs ++ r := by rw [List.append_assoc, ← hr']; exact HA.out.2
        have HX := Aside0.mk hx
        have HY0 := Aside0.mk hy0
        have HY := Aside0.mk hy
        have HXL := Aside0.mk hxl
        have HYL := Aside0.mk hyl
        have HNX := Aside0.mk hnext
        have HBL := Aside0.mk (show bl.length ≤ 1000 by have := HBN.out; omega)
        clear hx hy0 hy hxl hyl hnext hr' hylen
        have ha : (13 : Int) - ((j + 1 : Nat) : Int) = 12 - (j : Int) := by omega
        have hle : (12 : Int) - (j : Int) ≤ 12 := by omega
        rw [ha]
        have HRr := Aside0.mk (KeepI.row HKr.out HR.out)
        go_wp2_with fail
        refine (spec_l1Own.calls Ab cb bl bl wr (Kd.R_reads' HRr.out).2.2 HRb.out.1 (by have := HBL.out; unfold spec_l1Own.f; rw [Option.bind_some, if_pos (by simp; omega)]; simp)).mono ?_
        rintro e w1 ⟨v1, rfl, ho1, hb1⟩
        obtain ⟨A1_, c1_, ev1⟩ := Kd.R_slice ho1
        subst ev1
        have HO1 := Aside0.mk ho1
        have HB1 := Aside0.mk hb1
        clear ho1 hb1
        go_wp2_with ((with_reducible refine gate_builtin (b := .append) (xs := #[.tmp 21, .tmp 23]) rfl ?_); at_builtin; refine Kd.R_append (Kd.int .i64) (w0 := wr) wr.heap.size rfl (.tmp 21) (.tmp 23) 22 3 (.int .i64 0) 8 rfl Try.underlying22 pz_infoI rfl (by decide) (by omega) (.slice A1_ bl.length c1_) bl (12 - (j : Int)) [.int .i64 (12 - (j : Int))] (fun _ => True) (fun _ => False) rfl rfl rfl (fun _ hk => hk.elim) (fun _ _ => trivial) HO1.out HB1.out (below_size HB1.out) (by have := HBL.out; omega) ?_; intro v3 w3 ho hb hgr hat; rw [← HY.out] at ho; obtain ⟨A3_, c3_, ev3⟩ := Kd.R_slice ho; subst ev3; have HO3 := Aside0.mk ho; have HB3 := Aside0.mk hb; clear ho hb hgr hat)
        have hw : wrap64 (m - 1) = (n : Int) := by
          have h1 := HM.out
          have h2 := HYL.out
          have h3 : m - 1 = (n : Int) := by omega
          rw [h3]
          unfold wrap64; omega
        rw [hw]
        have HB3w := Aside0.mk (below_step HBr.out (show Below wr.heap.size wr w3 from HB3.out))
        refine (HIH.out w3 g v' A3_ c3_ ys y x HYL.out HB3w.out Hg.out (blk_below HGr.out HB3.out) (Kd.S_mono (Kd.S_elder' (v := .slice A3_ y.length c3_) HSr.out (Kd.R_base HO3.out) HB3.out) (fun _ hk => hk.2)) (Kd.R_lower HO3.out (below_size HBr.out)) HXL.out HX.out).mono ?_
        rintro e w4 ⟨rfl, v4, hG4, hS4, hB4, hK4⟩
        have HG4 := Aside0.mk hG4
        have HS4 := Aside0.mk hS4
        have HB4 := Aside0.mk hB4
        have HK4 := Aside0.mk hK4
        clear hG4 hS4 hB4 hK4
        go_wp2
        go_roundg j
        case measure => omega
        case rel => exact ⟨j, v4, ys ++ x, y0, Nat.le_refl _, by omega, by go_num, ⟨HY0.out, HNX.out⟩, HG4, HS4, HB4, ⟨(HKr.out.trans (KeepI.below HB3.out)).trans HK4.out⟩⟩
set_option maxHeartbeats 4000000 in
set_option maxRecDepth 100000 in
theorem spec_pzAll.calls (k : Nat) (a0 : Int) (A1 : Option Addr) (c1 : Nat) (l1 : List (S55)) (r : List (List Int)) (w : World) (hr1 : Kd.C k55 w A1 l1.length l1) (hc1 : l1.length ≤ c1) (h : spec_pzAll.f k a0 l1 = some r) :
    Calls Try.prog 51 #[.int .i64 a0, .slice A1 l1.length c1] w fun e w' => ∃ v0_ : Value, e = .returned (v0_) ∧ Kd.S (Kd.slice 3 (Kd.int .i64)) 22 w' w.heap.size (fun _ => True) v0_ r ∧ Below w.heap.size w w' := by
  unfold spec_pzAll.f at h
  by_cases hp : 0 ≤ a0 ∧ a0 ≤ 3
  · rw [if_pos hp] at h
    obtain ⟨x, hx, h⟩ := Option.bind_eq_some_iff.mp h
    by_cases hl : x.length ≤ 1000000
    · rw [if_pos hl] at h
      obtain rfl := Option.some.inj h
      obtain ⟨n, hn⟩ : ∃ n : Nat, a0 = (n : Int) := ⟨a0.toNat, by omega⟩
      subst hn
      rw [Int.toNat_natCast] at hx
      have HC := Aside0.mk (spec_pzLook.calls k A1 c1 l1 w hr1 hc1 n (w.alloc (.cells #[.slice none 0 0] 40)) w.heap.size (.slice none 0 0) none 0 [] [] x (by simp; omega) (below_alloc (Below.refl _ _) _) (Nat.le_refl _) (heap_alloc_new w _) (Kd.S_nil _ _ _ _ _) (Kd.R_nil _ _ _ _ _) (by simp; exact hl) hx)
      clear hr1 hc1 hx hl hp h
      go_enter Try.func51, Try.ntmps51
      go_wp2_with fail
      refine HC.out.mono ?_
      rintro e w4 ⟨rfl, v4, hG4, hS4, hB4, hK4⟩
      have HG4 := Aside0.mk hG4
      have HS4 := Aside0.mk hS4
      have HB4 := Aside0.mk hB4
      clear hG4 hS4 hB4 hK4
      obtain ⟨Av, cv, ev⟩ := Kd.S_slice HS4.out
      subst ev
      have hcz : w4.cell? ⟨w.heap.size, 0, none⟩ = some (.slice Av ([] ++ x).length cv) := (blk_cell HG4.out 0).trans rfl
      have hfz := blk_frozen HG4.out 0
      go_wp2
      go_ret
      exact ⟨_, rfl, HS4.out, HB4.out⟩
    · rw [if_neg hl] at h
      cases h
  · rw [if_neg hp] at h
    cases h

end Go.Proofs.Ytennnaibnlmjlaa.U
