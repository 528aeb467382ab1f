/- The walks of the Go functions that these laws reach: each is proved to do what a plain Lean function says. -/
import Derived.Test.YtennnaibnlmjlaaV0
import Derived.Test.YtennnaibnlmjlaaV4
import Derived.Test.YtennnaibnlmjlaaV6
namespace Go.Proofs.Ytennnaibnlmjlaa.V
open Go.RowKit Go.Proofs.YtennnaibnlmjlaaW.PrintWords Go.Proofs.YtennnaibnlmjlaaW.PrintLast Go.Proofs.YtennnaibnlmjlaaW.PrintMore
attribute [local go_sem] max2_int min2_int max_two min_two max_three min_three max_four min_four   -- for this text's walks alone
set_option linter.unusedVariables false
set_option linter.unusedSimpArgs false

/-! ### spec_pzAll: function 51 -/
/-! ### spec.pzLook: all hidden ages that fit some clues, told onto a list in memory -/
/-- Do ages fit all clues? -/
def allO_Clue (q : S55 → Option Bool) : List S55 → Option Bool
  | [] => some true
  | c :: t => (q c).bind fun b => if b = true then allO_Clue q t else some false
def spec_pzLook.leaf (k : Nat) (cl : List S55) (b : List Int) : Option (List (List Int)) := (allO_Clue (fun c => spec_pzFits.f k c.f0 c.f1 c.f2 b) cl).bind fun ok => some (if ok = true then [b] else [])
/-- The ages from 13 - n to 12, each behind b. -/
def spec_pzLook.ages (rec : List Int → Option (List (List Int))) (b : List Int) : Nat → Option (List (List Int))
  | 0 => some []
  | n + 1 => (rec (b ++ [12 - (n : Int)])).bind fun x => (spec_pzLook.ages rec b n).bind fun y => some (x ++ y)
def spec_pzLook.f (k : Nat) (cl : List S55) : Nat → List Int → Option (List (List Int))
  | 0, b => spec_pzLook.leaf k cl b
  | n + 1, b => spec_pzLook.ages (spec_pzLook.f k cl n) b 12
def spec_pzAll.f (k : Nat) (a0 : Int) (l1 : List S55) : Option (List (List Int)) := if 0 ≤ a0 ∧ a0 ≤ 3 then ((spec_pzLook.f k l1 a0.toNat []).bind fun r => if r.length ≤ 1000000 then some r else none) else none
theorem allO_Clue_mono {q q' : S55 → Option Bool} (h : ∀ c, LeO (q c) (q' c)) : ∀ l, LeO (allO_Clue q l) (allO_Clue q' l)
  | [] => LeO.refl _
  | c :: t => by
    unfold allO_Clue
    exact LeO.bind (h c) (fun b => LeO.ite (allO_Clue_mono h t) (LeO.refl _))
theorem spec_pzLook.ages_mono {g g' : List Int → Option (List (List Int))} (h : ∀ b, LeO (g b) (g' b)) (b : List Int) : ∀ n, LeO (spec_pzLook.ages g b n) (spec_pzLook.ages g' b n)
  | 0 => LeO.refl _
  | n + 1 => by
    unfold spec_pzLook.ages
    exact LeO.bind (h _) (fun _ => LeO.bind (spec_pzLook.ages_mono h b n) (fun _ => LeO.refl _))
theorem spec_pzLook.mono (k : Nat) (cl : List S55) : ∀ n b, LeO (spec_pzLook.f k cl n b) (spec_pzLook.f (k + 1) cl n b)
  | 0, b => by
    unfold spec_pzLook.f spec_pzLook.leaf
    exact LeO.bind (allO_Clue_mono (fun c => spec_pzFits.mono _ _ _ _ _) cl) (fun _ => LeO.refl _)
  | n + 1, b => by
    unfold spec_pzLook.f
    exact spec_pzLook.ages_mono (spec_pzLook.mono k cl n) b 12
theorem spec_pzAll.mono : ∀ a0 a1 k, LeO (spec_pzAll.f k a0 a1) (spec_pzAll.f (k + 1) a0 a1) := by
  intro a0 a1 k
  unfold spec_pzAll.f
  exact LeO.ite (LeO.bind (spec_pzLook.mono k a1 _ _) (fun _ => LeO.refl _)) (LeO.refl _)
theorem pz_infoI : (Try.prog.info? 3).map (fun i => (i.zero, i.size, i.bytes)) = some (some (.int .i64 0), 1, 8) := by kernel_rfl
theorem pz_infoS : (Try.prog.info? 22).map (fun i => (i.zero, i.size, i.bytes)) = some (some (.slice none 0 0), 1, 24) := by kernel_rfl
/-- Blocks of whole numbers stay. -/
def KeepI (W W' : World) : Prop := W.heap.size ≤ W'.heap.size ∧ ∀ (j : Nat) (cs : Array Value), W.heap[j]? = some (.cells cs 3 (0, 0)) → W'.heap[j]? = W.heap[j]?
theorem KeepI.refl (W : World) : KeepI W W := ⟨Nat.le_refl _, fun _ _ _ => rfl⟩
theorem KeepI.trans {W W1 W2 : World} (h : KeepI W W1) (h' : KeepI W1 W2) : KeepI W W2 := ⟨Nat.le_trans h.1 h'.1, fun j cs hc => by
  have h1 := h.2 j cs hc
  exact (h'.2 j cs (h1.trans hc)).trans h1⟩
theorem KeepI.below {W W1 : World} (h : Below W.heap.size W W1) : KeepI W W1 := ⟨h.size, fun j cs hc => h.block j (blk_lt hc)⟩
theorem KeepI.grown {W W1 : World} {row : Option Nat} (h : W.grownBy W1 row) (hr : ∀ j cs, row = some j → W.heap[j]? ≠ some (.cells cs 3 (0, 0))) : KeepI W W1 := ⟨h.size, fun j cs hc => h.block j (blk_lt hc) (fun e => hr j cs e.symm hc)⟩
theorem KeepI.setCell {W : World} {p : Addr} (u : Value) {cs : Array Value} {t : TypeId} {fr : Nat × Nat} (hp : W.heap[p.block]? = some (.cells cs t fr)) (ht : t ≠ 3) : KeepI W (W.setCell p u) := ⟨by simp, fun j cs' hc => by
  refine Below.heap_setCell W p u j (fun e => ?_)
  subst e
  rw [hp] at hc
  injection hc with hc
  injection hc with _ hc
  exact ht hc⟩
theorem KeepI.row {W W1 : World} {base : Nat} {ok : Nat → Prop} {v : Value} {xs : List Int} (hk : KeepI W W1) (h : Kd.R (Kd.int .i64) 3 W base ok v xs) : Kd.R (Kd.int .i64) 3 W1 base ok v xs :=
  Kd.R_mono (Kd.R_move (Kd.R_bound h) (fun k hk' => by
    obtain ⟨_, _, _, q, hq, cells, hc⟩ := hk'
    have hq3 : q = 3 := by simpa [Kd.int, Kd.scalar] using hq
    subst hq3
    exact hk.2 k cells hc)) (fun _ hk' => hk'.1)
theorem spec_pzLook.leaf_len (k : Nat) (cl : List S55) (b : List Int) (r : List (List Int)) (h : spec_pzLook.leaf k cl b = some r) : ∃ ok, allO_Clue (fun c => spec_pzFits.f k c.f0 c.f1 c.f2 b) cl = some ok ∧ r = if ok = true then [b] else [] := by
  obtain ⟨ok, h1, h2⟩ := Option.bind_eq_some_iff.mp h
  exact ⟨ok, h1, (Option.some.inj h2).symm⟩
theorem allO_Clue_at (q : S55 → Option Bool) (l : List S55) (k : Nat) (r : Bool) (h : allO_Clue q (l.drop k) = some r) (hk : k < l.length) : ∃ b, q (rd_T55 l k) = some b ∧ (b = false → r = false) ∧ (b = true → allO_Clue q (l.drop (k + 1)) = some r) := by
  rw [List.drop_eq_getElem_cons hk] at h
  unfold allO_Clue at h
  obtain ⟨b, h1, h2⟩ := Option.bind_eq_some_iff.mp h
  have e : rd_T55 l k = l[k] := by
    unfold rd_T55
    rw [Int.toNat_natCast, List.getD_eq_getElem?_getD, List.getElem?_eq_getElem hk, Option.getD_some]
  refine ⟨b, by rw [e]; exact h1, fun hb => ?_, fun hb => ?_⟩
  · subst hb
    simpa using h2.symm
  · subst hb
    simpa using h2
/-- What a call of pzLook leaves. -/
def spec_pzLook.Left (w0 W : World) (g : Nat) (xs : List (List Int)) (e : Ending) (W' : World) : Prop := e = .returned (.tuple #[]) ∧ ∃ v', W'.heap[g]? = some (.cells #[v'] 40 (0, 0)) ∧ Kd.S (Kd.slice 3 (Kd.int .i64)) 22 W' w0.heap.size (fun _ => True) v' xs ∧ Below w0.heap.size w0 W' ∧ KeepI W W'
theorem pz_at {w : World} {A : Option Addr} {n : Nat} {xs : List S55} (h : Kd.C k55 w A n xs) (i : Nat) (h1 : i < n) : ∃ ad : Addr, A = some ad ∧ w.cell? (ad.add (i * 3)) = some (.int .i64 (rd_T55 xs i).f0) ∧ w.cell? ⟨(ad.add (i * 3)).block, (ad.add (i * 3)).off + 1, none⟩ = some (.int .i64 (rd_T55 xs i).f1) ∧ w.cell? ⟨(ad.add (i * 3)).block, (ad.add (i * 3)).off + 2, none⟩ = some (.int .i64 (rd_T55 xs i).f2) := by
  obtain ⟨ad, c, e, _, hK, hc0⟩ := Kd.C_get h z55 (i : Int) (by omega) (by omega)
  rw [Int.toNat_natCast] at hK hc0
  have hc : ∀ j u, c[j]? = some u → w.cell? (ad.add (i * 3 + j)) = some u := hc0
  have hK2 : k55.K w (rd_T55 xs i) c := by unfold rd_T55; rw [Int.toNat_natCast]; exact hK
  obtain rfl := k55_open hK2
  exact ⟨ad, e, hc 0 _ rfl, by rw [← add_field _ _ 1 (by omega)]; exact hc 1 _ rfl, by rw [← add_field _ _ 2 (by omega)]; exact hc 2 _ rfl⟩
set_option maxHeartbeats 4000000 in
set_option maxRecDepth 100000 in
theorem spec_pzLook.leaf_calls (kk : Nat) (A1 : Option Addr) (c1 : Nat) (cl : List S55) (w0 : World) (hcl : Kd.C k55 w0 A1 cl.length cl) (hc1 : cl.length ≤ c1)
    (W : World) (g : Nat) (v : Value) (Ab : Option Addr) (cb : Nat) (xs : List (List Int)) (bl : List Int) (r : List (List Int)) (hB : Below w0.heap.size w0 W) (hg : w0.heap.size ≤ g) (hG : W.heap[g]? = some (.cells #[v] 40 (0, 0))) (hS : Kd.S (Kd.slice 3 (Kd.int .i64)) 22 W w0.heap.size (fun k => some k ≠ (Value.slice Ab bl.length cb).ownBlock) v xs) (hR : Kd.R (Kd.int .i64) 3 W w0.heap.size (fun _ => True) (.slice Ab bl.length cb) bl) (hlen : xs.length + r.length ≤ 1000000) (hf : spec_pzLook.leaf kk cl bl = some r) :
    Calls Try.prog 74 #[.int .i64 0, .slice A1 cl.length c1, .slice Ab bl.length cb, .pointer (some ⟨g, 0, none⟩)] W (spec_pzLook.Left w0 W g (xs ++ r)) := by
  have hu := Try.underlying55
  obtain ⟨ok, hok, hr⟩ := spec_pzLook.leaf_len kk cl bl r hf
  have HCL := Aside0.mk (Kd.C_below hcl hB)
  have hlen2 : cl.length ≤ 9223372036854775807 := hcl.2.1
  have HRb := Aside0.mk (Kd.R_reads' hR).2
  have HR := Aside0.mk hR
  have HS := Aside0.mk hS
  have HG := Aside0.mk hG
  have HB := Aside0.mk hB
  have Hg := Aside0.mk hg
  have HOK := Aside0.mk hok
  have HRR := Aside0.mk hr
  have HL := Aside0.mk hlen
  clear hcl hR hS hG hB hg hok hr hlen hf
  go_enter Try.func74, Try.ntmps74
  go_wp2
  go_loopg [10, 29] cl.length (fun gg _ s29 wr => ∃ kj : Nat, kj ≤ cl.length ∧ cl.length - kj ≤ gg ∧ s29 = .int .i64 kj ∧ Aside0 (Below W.heap.size W wr) ∧ Aside0 (allO_Clue (fun c => spec_pzFits.f kk c.f0 c.f1 c.f2 bl) (cl.drop kj) = some ok))
  case atStart => exact ⟨0, Nat.zero_le _, by omega, rfl, ⟨Below.refl _ _⟩, ⟨HOK.out⟩⟩
  case round =>
    obtain ⟨kj, hkk, hgg, rfl, HBr, HA⟩ := hrel
    by_cases hlt : kj < cl.length
    · have hltz : (kj : Int) < (cl.length : Int) := by omega
      obtain ⟨ad, ea, hx0, hx1, hx2⟩ := pz_at (Kd.C_below HCL.out HBr.out) kj hlt
      subst ea
      obtain ⟨b, hb1, hb2, hb3⟩ := allO_Clue_at _ cl kj ok HA.out hlt
      generalize hy : rd_T55 cl kj = y at hb1 hx0 hx1 hx2
      clear hy
      have HB1 := Aside0.mk hb1
      clear hb1
      have hside := Aside0.mk (Kd.C_alloc (Kd.C_below HRb.out.2 HBr.out) (.cells #[.int .i64 y.f0, .int .i64 y.f1, .int .i64 y.f2] 55))
      go_wp2_with fail
      refine (spec_pzFits.calls kk _ _ _ _ _ bl b _ hside.out HRb.out.1 HB1.out).mono ?_
      rintro e w' ⟨rfl, hb'⟩
      have HB2 := Aside0.mk (below_then (below_alloc HBr.out _) (below_alloc HBr.out _).size hb')
      clear hb' hside HB1
      cases b with
      | true =>
        have H3 := Aside0.mk (hb3 rfl)
        clear hb2 hb3
        go_wp2
        go_roundg (cl.length - (kj + 1))
        case measure => omega
        case rel => exact ⟨kj + 1, by omega, by omega, by go_num, HB2, ⟨H3.out⟩⟩
      | false =>
        have H3 := Aside0.mk (hb2 rfl)
        clear hb2 hb3
        have hr2 : r = [] := by rw [HRR.out, if_neg (by rw [H3.out]; decide)]
        have H4 := Aside0.mk hr2
        clear hr2
        go_wp2
        ((try simp only [Exit.inBlock, Exit.then]); refine bodyPost_ret (results_none rfl _ _ _) rfl ?_)
        refine ⟨rfl, v, blk_below HG.out HB2.out, ?_, below_step HB.out HB2.out, KeepI.below HB2.out⟩
        rw [H4.out, List.append_nil]
        exact Kd.S_mono (Kd.S_below HS.out HB2.out) (fun _ _ => trivial)
    · have hltz : ¬ (kj : Int) < (cl.length : Int) := by omega
      have hke : kj = cl.length := by omega
      have hr2 : r = [bl] := by
        have := HA.out
        rw [hke, List.drop_length] at this
        rw [HRR.out, if_pos (by simpa [allO_Clue] using this.symm)]
      have H4 := Aside0.mk hr2
      clear hr2
      have HG2 := Aside0.mk (blk_below HG.out HBr.out)
      have HS2 := Aside0.mk (Kd.S_below HS.out HBr.out)
      have HR2 := Aside0.mk (Kd.R_below HR.out HBr.out)
      obtain ⟨Av, cv, ev⟩ := Kd.S_slice HS2.out
      subst ev
      have hcz : wr.cell? ⟨g, 0, none⟩ = some (.slice Av xs.length cv) := (blk_cell HG2.out 0).trans rfl
      have hfz := blk_frozen HG2.out 0
      go_wp2_with ((with_reducible refine gate_builtin (b := .append) (xs := #[.tmp 41, .tmp 43]) rfl ?_); at_builtin; refine Kd.S_append (Kd.slice 3 (Kd.int .i64)) (w0 := w0) w0.heap.size rfl (.tmp 41) (.tmp 43) 40 22 (.slice none 0 0) 24 rfl Try.underlying40 pz_infoS rfl (by decide) (by omega) (.slice Av xs.length cv) xs bl [.slice Ab bl.length cb] (fun _ => True) (fun k_ => some k_ = (Value.slice Ab bl.length cb).ownBlock) rfl rfl (Kd.M_row (Kd.R_tight rfl HR2.out)) (fun k_ hk_ => ⟨trivial, ((Kd.R_apart' HR2.out (Kd.S_typed HS2.out) (by decide)).1 k_ hk_.symm).2⟩) (fun _ _ => trivial) (Kd.S_mono HS2.out (fun k_ hk_ => ⟨trivial, fun e_ => hk_ e_⟩)) (below_step HB.out HBr.out) (below_size (below_step HB.out HBr.out)) (by have := HL.out; rw [H4.out] at this; simp at this; omega) ?_; intro v1 w1 ho hb hgr hat; obtain ⟨Av1, cv1, ev1⟩ := Kd.S_slice ho; subst ev1; have HG3 := Aside0.mk (blk_grown HG2.out hgr (Kd.S_ne HS2.out HG2.out (by decide))); have hcz3 : w1.cell? ⟨g, 0, none⟩ = some (.slice Av xs.length cv) := (blk_cell HG3.out 0).trans rfl; have hfz3 := blk_frozen HG3.out 0; have HO := Aside0.mk ho; have HB3 := Aside0.mk hb; have HK3 := Aside0.mk (KeepI.grown hgr (fun j cs hj hcs => by obtain ⟨cells, hcc⟩ := Kd.S_typed HS2.out j hj; rw [hcc] at hcs; injection hcs with hcs; injection hcs with _ hcs; exact absurd hcs (by decide))); clear ho hb hgr hat)
      go_end0
      rw [H4.out]
      have HO2 : Kd.S (Kd.slice 3 (Kd.int .i64)) 22 w1 w0.heap.size (fun _ => True) (.slice Av1 (xs.length + 1) cv1) (xs ++ [bl]) := by
        have e_ : (xs ++ [bl]).length = xs.length + 1 := by simp
        rw [← e_]; exact HO.out
      exact ⟨rfl, _, blk_put HG3.out 0 _ rfl, Kd.S_set HO2 HG3.out (by decide) 0 _, below_set HB3.out Hg.out, ((KeepI.below HBr.out).trans HK3.out).trans (KeepI.setCell _ HG3.out (by decide))⟩
set_option maxHeartbeats 4000000 in
set_option maxRecDepth 100000 in
theorem spec_pzLook.calls (kk : Nat) (A1 : Option Addr) (c1 : Nat) (cl : List S55) (w0 : World) (hcl : Kd.C k55 w0 A1 cl.length cl) (hc1 : cl.length ≤ c1) :
    ∀ (n : Nat) (W : World) (g : Nat) (v : Value) (Ab : Option Addr) (cb : Nat) (xs : List (List Int)) (bl : List Int) (r : List (List Int)), bl.length + n ≤ 1000 → Below w0.heap.size w0 W → w0.heap.size ≤ g → W.heap[g]? = some (.cells #[v] 40 (0, 0)) → Kd.S (Kd.slice 3 (Kd.int .i64)) 22 W w0.heap.size (fun k => some k ≠ (Value.slice Ab bl.length cb).ownBlock) v xs → Kd.R (Kd.int .i64) 3 W w0.heap.size (fun _ => True) (.slice Ab bl.length cb) bl → xs.length + r.length ≤ 1000000 → spec_pzLook.f kk cl n bl = some r →
    Calls Try.prog 74 #[.int .i64 n, .slice A1 cl.length c1, .slice Ab bl.length cb, .pointer (some ⟨g, 0, none⟩)] W (spec_pzLook.Left w0 W g (xs ++ r)) := by
  intro n
  induction n with
  | zero =>
    intro W g v Ab cb xs bl r _ hB hg hG hS hR hlen hf
    exact spec_pzLook.leaf_calls kk A1 c1 cl w0 hcl hc1 W g v Ab cb xs bl r hB hg hG hS hR hlen hf
  | succ n ih =>
    intro W g v Ab cb xs bl r hbn hB hg hG hS hR hlen hf
    have HIH := Aside0.mk ih
    have HRb := Aside0.mk (Kd.R_reads' hR).2
    have HR := Aside0.mk hR
    have HS := Aside0.mk hS
    have HG := Aside0.mk hG
    have HB := Aside0.mk hB
    have Hg := Aside0.mk hg
    have HL := Aside0.mk hlen
    have HBN := Aside0.mk hbn
    replace hf : spec_pzLook.ages (spec_pzLook.f kk cl n) bl 12 = some r := hf
    have HF := Aside0.mk hf
    clear hcl ih hR hS hG hB hg hlen hf hbn
    have hn0 : ¬ (((n + 1 : Nat) : Int) ≤ 0) := by omega
    generalize hm : ((n + 1 : Nat) : Int) = m at hn0
    have hm0 : 0 < m := by omega
    have HM := Aside0.mk hm
    clear hm
    go_enter Try.func74, Try.ntmps74
    go_wp2
    go_loopg [8] 12 (fun gg s8 wr => ∃ (j : Nat) (v' : Value) (ys r' : List (List Int)), j ≤ gg ∧ j ≤ 12 ∧ s8 = .int .i64 (13 - (j : Int)) ∧ Aside0 (spec_pzLook.ages (spec_pzLook.f kk cl n) bl j = some r' ∧ ys ++ r' = xs ++ r) ∧ Aside0 (wr.heap[g]? = some (.cells #[v'] 40 (0, 0))) ∧ Aside0 (Kd.S (Kd.slice 3 (Kd.int .i64)) 22 wr w0.heap.size (fun _ => True) v' ys) ∧ Aside0 (Below w0.heap.size w0 wr) ∧ Aside0 (KeepI W wr))
    case atStart => exact ⟨12, v, xs, r, Nat.le_refl _, Nat.le_refl _, by simp, ⟨HF.out, rfl⟩, HG, ⟨Kd.S_mono HS.out (fun _ _ => trivial)⟩, HB, ⟨KeepI.refl _⟩⟩
    case round =>
      obtain ⟨j, v', ys, r', hjg, hj12, rfl, HA, HGr, HSr, HBr, HKr⟩ := hrel
      cases j with
      | zero =>
        have e0 : r' = [] := by have := HA.out.1; unfold spec_pzLook.ages at this; exact (Option.some.inj this).symm
        have e1 : ys = xs ++ r := by have := HA.out.2; rw [e0, List.append_nil] at this; exact this
        have E1 := Aside0.mk e1
        clear e0 e1
        go_wp2
        ((try simp only [Exit.inBlock, Exit.then]); refine bodyPost_end (results_none rfl _ _ _) rfl ?_)
        exact ⟨rfl, v', HGr.out, by rw [← E1.out]; exact HSr.out, HBr.out, HKr.out⟩
      | succ j =>
        obtain ⟨x, hx, y0, hy0, hr'⟩ : ∃ x, spec_pzLook.f kk cl n (bl ++ [12 - (j : Int)]) = some x ∧ ∃ y0, spec_pzLook.ages (spec_pzLook.f kk cl n) bl j = some y0 ∧ r' = x ++ y0 := by
          have h := HA.out.1
          unfold spec_pzLook.ages at h
          obtain ⟨x, hx, h⟩ := Option.bind_eq_some_iff.mp h
          obtain ⟨y0, hy0, h⟩ := Option.bind_eq_some_iff.mp h
          exact ⟨x, hx, y0, hy0, (Option.some.inj h).symm⟩
        obtain ⟨y, hy⟩ : ∃ y, y = bl ++ [12 - (j : Int)] := ⟨_, rfl⟩
        rw [← hy] at hx
        have hylen : y.length = bl.length + 1 := by rw [hy]; simp
        have hxl : ys.length + x.length ≤ 1000000 := by
          have h1 := congrArg List.length HA.out.2
          have h2 := HL.out
          rw [hr'] at h1
          simp only [List.length_append] at h1
          omega
        have hyl : y.length + n ≤ 1000 := by have := HBN.out; omega
        have hnext : ys ++ x ++ y0 = xs ++ r := by rw [List.append_assoc, ← hr']; exact HA.out.2
        have HX := Aside0.mk hx
        have HY0 := Aside0.mk hy0
        have HY := Aside0.mk hy
        have HXL := Aside0.mk hxl
        have HYL := Aside0.mk hyl
        have HNX := Aside0.mk hnext
        have HBL := Aside0.mk (show bl.length ≤ 1000 by have := HBN.out; omega)
        clear hx hy0 hy hxl hyl hnext hr' hylen
        have ha : (13 : Int) - ((j + 1 : Nat) : Int) = 12 - (j : Int) := by omega
        have hle : (12 : Int) - (j : Int) ≤ 12 := by omega
        rw [ha]
        have HRr := Aside0.mk (KeepI.row HKr.out HR.out)
        go_wp2_with fail
        refine (spec_l1Own.calls Ab cb bl bl wr (Kd.R_reads' HRr.out).2.2 HRb.out.1 (by have := HBL.out; unfold spec_l1Own.f; rw [Option.bind_some, if_pos (by simp; omega)]; simp)).mono ?_
        rintro e w1 ⟨v1, rfl, ho1, hb1⟩
        obtain ⟨A1_, c1_, ev1⟩ := Kd.R_slice ho1
        subst ev1
        have HO1 := Aside0.mk ho1
        have HB1 := Aside0.mk hb1
        clear ho1 hb1
        go_wp2_with ((with_reducible refine gate_builtin (b := .append) (xs := #[.tmp 21, .tmp 23]) rfl ?_); at_builtin; refine Kd.R_append (Kd.int .i64) (w0 := wr) wr.heap.size rfl (.tmp 21) (.tmp 23) 22 3 (.int .i64 0) 8 rfl Try.underlying22 pz_infoI rfl (by decide) (by omega) (.slice A1_ bl.length c1_) bl (12 - (j : Int)) [.int .i64 (12 - (j : Int))] (fun _ => True) (fun _ => False) rfl rfl rfl (fun _ hk => hk.elim) (fun _ _ => trivial) HO1.out HB1.out (below_size HB1.out) (by have := HBL.out; omega) ?_; intro v3 w3 ho hb hgr hat; rw [← HY.out] at ho; obtain ⟨A3_, c3_, ev3⟩ := Kd.R_slice ho; subst ev3; have HO3 := Aside0.mk ho; have HB3 := Aside0.mk hb; clear ho hb hgr hat)
        have hw : wrap64 (m - 1) = (n : Int) := by
          have h1 := HM.out
          have h2 := HYL.out
          have h3 : m - 1 = (n : Int) := by omega
          rw [h3]
          unfold wrap64; omega
        rw [hw]
        have HB3w := Aside0.mk (below_step HBr.out (show Below wr.heap.size wr w3 from HB3.out))
        refine (HIH.out w3 g v' A3_ c3_ ys y x HYL.out HB3w.out Hg.out (blk_below HGr.out HB3.out) (Kd.S_mono (Kd.S_elder' (v := .slice A3_ y.length c3_) HSr.out (Kd.R_base HO3.out) HB3.out) (fun _ hk => hk.2)) (Kd.R_lower HO3.out (below_size HBr.out)) HXL.out HX.out).mono ?_
        rintro e w4 ⟨rfl, v4, hG4, hS4, hB4, hK4⟩
        have HG4 := Aside0.mk hG4
        have HS4 := Aside0.mk hS4
        have HB4 := Aside0.mk hB4
        have HK4 := Aside0.mk hK4
        clear hG4 hS4 hB4 hK4
        go_wp2
        go_roundg j
        case measure => omega
        case rel => exact ⟨j, v4, ys ++ x, y0, Nat.le_refl _, by omega, by go_num, ⟨HY0.out, HNX.out⟩, HG4, HS4, HB4, ⟨(HKr.out.trans (KeepI.below HB3.out)).trans HK4.out⟩⟩
set_option maxHeartbeats 4000000 in
set_option maxRecDepth 100000 in
theorem spec_pzAll.calls (k : Nat) (a0 : Int) (A1 : Option Addr) (c1 : Nat) (l1 : List (S55)) (r : List (List Int)) (w : World) (hr1 : Kd.C k55 w A1 l1.length l1) (hc1 : l1.length ≤ c1) (h : spec_pzAll.f k a0 l1 = some r) :
    Calls Try.prog 51 #[.int .i64 a0, .slice A1 l1.length c1] w fun e w' => ∃ v0_ : Value, e = .returned (v0_) ∧ Kd.S (Kd.slice 3 (Kd.int .i64)) 22 w' w.heap.size (fun _ => True) v0_ r ∧ Below w.heap.size w w' := by
  unfold spec_pzAll.f at h
  by_cases hp : 0 ≤ a0 ∧ a0 ≤ 3
  · rw [if_pos hp] at h
    obtain ⟨x, hx, h⟩ := Option.bind_eq_some_iff.mp h
    by_cases hl : x.length ≤ 1000000
    · rw [if_pos hl] at h
      obtain rfl := Option.some.inj h
      obtain ⟨n, hn⟩ : ∃ n : Nat, a0 = (n : Int) := ⟨a0.toNat, by omega⟩
      subst hn
      rw [Int.toNat_natCast] at hx
      have HC := Aside0.mk (spec_pzLook.calls k A1 c1 l1 w hr1 hc1 n (w.alloc (.cells #[.slice none 0 0] 40)) w.heap.size (.slice none 0 0) none 0 [] [] x (by simp; omega) (below_alloc (Below.refl _ _) _) (Nat.le_refl _) (heap_alloc_new w _) (Kd.S_nil _ _ _ _ _) (Kd.R_nil _ _ _ _ _) (by simp; exact hl) hx)
      clear hr1 hc1 hx hl hp h
      go_enter Try.func51, Try.ntmps51
      go_wp2_with fail
      refine HC.out.mono ?_
      rintro e w4 ⟨rfl, v4, hG4, hS4, hB4, hK4⟩
      have HG4 := Aside0.mk hG4
      have HS4 := Aside0.mk hS4
      have HB4 := Aside0.mk hB4
      clear hG4 hS4 hB4 hK4
      obtain ⟨Av, cv, ev⟩ := Kd.S_slice HS4.out
      subst ev
      have hcz : w4.cell? ⟨w.heap.size, 0, none⟩ = some (.slice Av ([] ++ x).length cv) := (blk_cell HG4.out 0).trans rfl
      have hfz := blk_frozen HG4.out 0
      go_wp2
      go_ret
      exact ⟨_, rfl, HS4.out, HB4.out⟩
    · rw [if_neg hl] at h
      cases h
  · rw [if_neg hp] at h
    cases h

/-! ### spec_Solutions: function 21 -/
def spec_Solutions.f (k : Nat) (a0_0 : Int) (l0_1 : List (S55)) : Option ((List (List Int)) × Bool) := (spec_pzGood.f k a0_0 l0_1).bind fun t151 => (if t151 = true then ((spec_pzAll.f k a0_0 l0_1).bind fun t152 => (some (t152, true))) else (some (([] : List (List Int)), false)))
theorem spec_Solutions.mono : ∀ a0 a1 k, LeO (spec_Solutions.f k a0 a1) (spec_Solutions.f (k + 1) a0 a1) := by
  intro a0 a1 k
  unfold spec_Solutions.f
  repeat' first
      | (with_reducible exact spec_pzAll.mono _ _ _)
      | (with_reducible exact spec_pzGood.mono _ _ _)
      | (with_reducible exact LeO.refl _)
      | (with_reducible exact LeO.none _)
      | (with_reducible refine LeO.ite ?_ ?_)
      | (with_reducible refine LeO.bind ?_ (fun _ => ?_))
      | exact spec_pzAll.mono _ _ _
      | exact spec_pzGood.mono _ _ _
      | exact LeO.none _
      | refine LeO.ite ?_ ?_
      | refine LeO.bind ?_ (fun _ => ?_)
set_option maxHeartbeats 8000000 in
set_option maxRecDepth 100000 in
theorem spec_Solutions.calls (k : Nat) (a0_0 : Int) (A0_1 : Option Addr) (c0_1 : Nat) (l0_1 : List (S55)) (r1 : List (List Int)) (r2 : Bool) (w : World) (hr0_1 : Kd.C k55 w A0_1 l0_1.length l0_1) (hc0_1 : l0_1.length ≤ c0_1) (h : spec_Solutions.f k a0_0 l0_1 = some (r1, r2)) :
    Calls Try.prog 21 #[.agg #[.int .i64 a0_0, .slice A0_1 l0_1.length c0_1]] w fun e w' => ∃ v0_ : Value, e = .returned (.tuple #[v0_, .bool r2]) ∧ Kd.S (Kd.slice 3 (Kd.int .i64)) 22 w' w.heap.size (fun _ => True) v0_ r1 ∧ Below w.heap.size w w' := by
  have hu30 := Try.underlying30
  have HR0_1 := Aside0.mk hr0_1
  have HC0_1 := Aside0.mk hc0_1
  clear hr0_1 hc0_1
  have HB := Aside0.mk (Below.refl w.heap.size w)
  have H : ((spec_pzGood.f k a0_0 l0_1).bind fun t151 => (if t151 = true then ((spec_pzAll.f k a0_0 l0_1).bind fun t152 => (some (t152, true))) else (some (([] : List (List Int)), false)))) = some (r1, r2) := h
  clear h
  replace H := Option.bind_eq_some_iff.mp H
  obtain ⟨t151, A20, H⟩ := H
  replace H : (if t151 = true then ((spec_pzAll.f k a0_0 l0_1).bind fun t152 => (some (t152, true))) else (some (([] : List (List Int)), false))) = some (r1, r2) := H
  have A2 := Aside0.mk A20
  clear A20
  by_cases c3 : t151 = true
  · subst c3
    have H1 : ((spec_pzAll.f k a0_0 l0_1).bind fun t152 => (some (t152, true))) = some (r1, r2) := by rw [if_pos rfl] at H; exact H
    clear H
    have H := H1
    clear H1
    replace H := Option.bind_eq_some_iff.mp H
    obtain ⟨t152, A40, H⟩ := H
    replace H : (some (t152, true)) = some (r1, r2) := H
    have A4 := Aside0.mk A40
    clear A40
    simp only [Option.some.injEq, Prod.mk.injEq] at H
    obtain ⟨rfl, rfl⟩ := H
    go_enter Try.func21, Try.ntmps21
    go_wp2_with (first | ((with_reducible refine gate_dst (N := 1) rfl ?_); refine box_event ?hg (N := 1) ?hd (cs := #[.int .i64 a0_0, .slice A0_1 l0_1.length c0_1]) (t := 30) ?hr ?_; (case hd => rfl); (case hg => rfl); (case hr => first | (go_simp; done) | (go_simp; rfl)); intro gb150 hg w5 hbox hb; have n0_ := Aside0.mk (below_step (by repeat (first | (with_reducible first | exact HB.out | apply below_alloc | apply pw_below_drewN | apply below_drew1) | exact HB.out)) hb); have n1_ := Aside0.mk (hbox); have n2_ := Aside0.mk ((by rw [hg]; exact (below_size (by repeat (first | (with_reducible first | exact HB.out | apply below_alloc | apply pw_below_drewN | apply below_drew1) | exact HB.out))) : w.heap.size ≤ gb150)); have n3_ := Aside0.mk ((by rw [hg]; exact (below_size (by repeat (first | (with_reducible first | exact HB.out | apply below_alloc | apply pw_below_drewN | apply below_drew1) | exact HB.out))) : w.heap.size ≤ gb150)); clear HB; have HB := n0_; have BK150 := n1_; have GW150 := n2_; have GE150 := n3_; clear n0_ n1_ n2_ n3_; clear hb hbox hg; have hcz6_0 : w5.cell? ⟨gb150, 0, none⟩ = some (.int .i64 a0_0) := (blk_cell BK150.out 0).trans rfl; have hcz6_1 : w5.cell? ⟨gb150, 1, none⟩ = some (.slice A0_1 l0_1.length c0_1) := (blk_cell BK150.out 1).trans rfl; have hfz6_0 := blk_frozen BK150.out 0; have hfz6_1 := blk_frozen BK150.out 1) | ((with_reducible refine gate_callee (f := 50) rfl ?_); refine goesL_ (some 5) rfl rfl Try.func50 (by kernel_rfl) rfl #[.agg #[.int .i64 a0_0, .slice A0_1 l0_1.length c0_1]] rfl (by (try simp only [List.map_toArray, List.map_cons, List.map_nil]); first | done | rfl | (simp only [List.length_drop, List.length_take]; rfl)) ?_; (with_reducible refine (spec_pzGood.calls k a0_0 _ _ l0_1 true _ ?side1 ?side2 A2.out).mono ?_); (case side1 => repeat (first | exact (Kd.C_below HR0_1.out HB.out) | (with_reducible refine Kd.C_alloc ?_ _) | (with_reducible refine Kd.C_drewN ?_ _) | (with_reducible refine Kd.C_drew ?_))); (case side2 => exact HC0_1.out); rintro e w7 ⟨rfl, hb⟩; refine ⟨_, rfl, ?_⟩; have n0_ := Aside0.mk (blk_below (g := gb150) (o := .cells #[.int .i64 a0_0, .slice A0_1 l0_1.length c0_1] 30 (0, 0)) (by (with_reducible repeat (first | refine blk_drewN ?_ _ | refine blk_drew ?_ | refine blk_alloc ?_ _)); exact BK150.out) hb); have n1_ := Aside0.mk (below_step (by repeat (first | (with_reducible first | exact HB.out | apply below_alloc | apply pw_below_drewN | apply below_drew1 | refine below_set ?_ GE150.out) | exact HB.out)) hb); clear BK150; clear HB; have BK150 := n0_; have HB := n1_; clear n0_ n1_; (try clear hb); (try clear hb2); (try clear hk); (try clear hi); have hcz8_0 : w7.cell? ⟨gb150, 0, none⟩ = some (.int .i64 a0_0) := (blk_cell BK150.out 0).trans rfl; have hcz8_1 : w7.cell? ⟨gb150, 1, none⟩ = some (.slice A0_1 l0_1.length c0_1) := (blk_cell BK150.out 1).trans rfl; have hfz8_0 := blk_frozen BK150.out 0; have hfz8_1 := blk_frozen BK150.out 1) | ((with_reducible refine gate_callee (f := 51) rfl ?_); refine goesL_ (some 11) rfl rfl Try.func51 (by kernel_rfl) rfl #[.int .i64 a0_0, .slice A0_1 l0_1.length c0_1] rfl (by (try simp only [List.map_toArray, List.map_cons, List.map_nil]); first | done | rfl | (simp only [List.length_drop, List.length_take]; rfl)) ?_; (with_reducible refine (spec_pzAll.calls k a0_0 _ _ l0_1 t152 _ ?side1 ?side2 A4.out).mono ?_); (case side1 => repeat (first | exact (Kd.C_below HR0_1.out HB.out) | (with_reducible refine Kd.C_alloc ?_ _) | (with_reducible refine Kd.C_drewN ?_ _) | (with_reducible refine Kd.C_drew ?_))); (case side2 => exact HC0_1.out); rintro e w9 ⟨v153, rfl, ho0, hb⟩; refine ⟨_, rfl, ?_⟩; have n0_ := Aside0.mk (Kd.S_lower ho0 (below_size (by repeat (first | (with_reducible first | exact HB.out | apply below_alloc | apply pw_below_drewN | apply below_drew1 | refine below_set ?_ GE150.out) | exact HB.out)))); have n1_ := Aside0.mk (blk_below (g := gb150) (o := .cells #[.int .i64 a0_0, .slice A0_1 l0_1.length c0_1] 30 (0, 0)) (by (with_reducible repeat (first | refine blk_drewN ?_ _ | refine blk_drew ?_ | refine blk_alloc ?_ _)); exact BK150.out) hb); have n2_ := Aside0.mk (below_step (by repeat (first | (with_reducible first | exact HB.out | apply below_alloc | apply pw_below_drewN | apply below_drew1 | refine below_set ?_ GE150.out) | exact HB.out)) hb); clear BK150; clear HB; have HO154 := n0_; have BK150 := n1_; have HB := n2_; clear n0_ n1_ n2_; (try clear hb); (try clear hb2); (try clear hk); (try clear hi); (try clear ho0)))
    go_ret2
    exact ⟨_, by first | rfl | (simp [errW_none, errW_some] <;> rfl) | (simp [*, errW_none, errW_some] <;> rfl), by (with_reducible repeat (first | apply Kd.S_alloc | apply Kd.S_drewN | apply Kd.S_drew)); exact HO154.out, by repeat (first | (with_reducible first | exact HB.out | apply below_alloc | apply pw_below_drewN | apply below_drew1 | refine below_set ?_ GE150.out) | exact HB.out)⟩
  · replace c3 := Bool.eq_false_iff.mpr c3
    subst c3
    have H1 : (some (([] : List (List Int)), false)) = some (r1, r2) := by rw [if_neg (show ¬ (false = true) by decide)] at H; exact H
    clear H
    have H := H1
    clear H1
    simp only [Option.some.injEq, Prod.mk.injEq] at H
    obtain ⟨rfl, rfl⟩ := H
    go_enter Try.func21, Try.ntmps21
    go_wp2_with (first | ((with_reducible refine gate_dst (N := 1) rfl ?_); refine box_event ?hg (N := 1) ?hd (cs := #[.int .i64 a0_0, .slice A0_1 l0_1.length c0_1]) (t := 30) ?hr ?_; (case hd => rfl); (case hg => rfl); (case hr => first | (go_simp; done) | (go_simp; rfl)); intro gb150 hg w10 hbox hb; have n0_ := Aside0.mk (below_step (by repeat (first | (with_reducible first | exact HB.out | apply below_alloc | apply pw_below_drewN | apply below_drew1) | exact HB.out)) hb); have n1_ := Aside0.mk (hbox); have n2_ := Aside0.mk ((by rw [hg]; exact (below_size (by repeat (first | (with_reducible first | exact HB.out | apply below_alloc | apply pw_below_drewN | apply below_drew1) | exact HB.out))) : w.heap.size ≤ gb150)); have n3_ := Aside0.mk ((by rw [hg]; exact (below_size (by repeat (first | (with_reducible first | exact HB.out | apply below_alloc | apply pw_below_drewN | apply below_drew1) | exact HB.out))) : w.heap.size ≤ gb150)); clear HB; have HB := n0_; have BK150 := n1_; have GW150 := n2_; have GE150 := n3_; clear n0_ n1_ n2_ n3_; clear hb hbox hg; have hcz11_0 : w10.cell? ⟨gb150, 0, none⟩ = some (.int .i64 a0_0) := (blk_cell BK150.out 0).trans rfl; have hcz11_1 : w10.cell? ⟨gb150, 1, none⟩ = some (.slice A0_1 l0_1.length c0_1) := (blk_cell BK150.out 1).trans rfl; have hfz11_0 := blk_frozen BK150.out 0; have hfz11_1 := blk_frozen BK150.out 1) | ((with_reducible refine gate_callee (f := 50) rfl ?_); refine goesL_ (some 5) rfl rfl Try.func50 (by kernel_rfl) rfl #[.agg #[.int .i64 a0_0, .slice A0_1 l0_1.length c0_1]] rfl (by (try simp only [List.map_toArray, List.map_cons, List.map_nil]); first | done | rfl | (simp only [List.length_drop, List.length_take]; rfl)) ?_; (with_reducible refine (spec_pzGood.calls k a0_0 _ _ l0_1 false _ ?side1 ?side2 A2.out).mono ?_); (case side1 => repeat (first | exact (Kd.C_below HR0_1.out HB.out) | (with_reducible refine Kd.C_alloc ?_ _) | (with_reducible refine Kd.C_drewN ?_ _) | (with_reducible refine Kd.C_drew ?_))); (case side2 => exact HC0_1.out); rintro e w12 ⟨rfl, hb⟩; refine ⟨_, rfl, ?_⟩; have n0_ := Aside0.mk (blk_below (g := gb150) (o := .cells #[.int .i64 a0_0, .slice A0_1 l0_1.length c0_1] 30 (0, 0)) (by (with_reducible repeat (first | refine blk_drewN ?_ _ | refine blk_drew ?_ | refine blk_alloc ?_ _)); exact BK150.out) hb); have n1_ := Aside0.mk (below_step (by repeat (first | (with_reducible first | exact HB.out | apply below_alloc | apply pw_below_drewN | apply below_drew1 | refine below_set ?_ GE150.out) | exact HB.out)) hb); clear BK150; clear HB; have BK150 := n0_; have HB := n1_; clear n0_ n1_; (try clear hb); (try clear hb2); (try clear hk); (try clear hi)))
    go_ret2
    exact ⟨_, by first | rfl | (simp [errW_none, errW_some] <;> rfl) | (simp [*, errW_none, errW_some] <;> rfl), by first | exact Kd.S_nil _ _ _ _ _ | exact Kd.N_nil _ _ _ _ _ | exact Kd.V_nil _ _ _ _ _ | exact Kd.Q_nil _ _ _ _ _ | exact Kd.R_nil _ _ _ _ _, by repeat (first | (with_reducible first | exact HB.out | apply below_alloc | apply pw_below_drewN | apply below_drew1 | refine below_set ?_ GE150.out) | exact HB.out)⟩

/-! ### laws_toClue: function 75 -/
def laws_toClue.f (a0_0 : Int) (a0_1 : Int) (a0_2 : Int) : Option (Int × Int × Int) := some (a0_0, a0_1, a0_2)
set_option maxHeartbeats 8000000 in
set_option maxRecDepth 100000 in
theorem laws_toClue.calls (a0_0 : Int) (a0_1 : Int) (a0_2 : Int) (r1 : Int) (r2 : Int) (r3 : Int) (w : World) (h : laws_toClue.f a0_0 a0_1 a0_2 = some (r1, r2, r3)) :
    Calls Try.prog 75 #[.agg #[.int .i64 a0_0, .int .i64 a0_1, .int .i64 a0_2]] w fun e w' => e = .returned (.agg #[.int .i64 r1, .int .i64 r2, .int .i64 r3]) ∧ Below w.heap.size w w' := by
  have hu81 := Try.underlying81
  have hu55 := Try.underlying55
  have HB := Aside0.mk (Below.refl w.heap.size w)
  have H : (some (a0_0, a0_1, a0_2)) = some (r1, r2, r3) := h
  clear h
  simp only [Option.some.injEq, Prod.mk.injEq] at H
  obtain ⟨rfl, rfl, rfl⟩ := H
  go_enter Try.func75, Try.ntmps75
  go_wp2_with (first | ((with_reducible refine gate_dst (N := 1) rfl ?_); refine box_event ?hg (N := 1) ?hd (cs := #[.int .i64 a0_0, .int .i64 a0_1, .int .i64 a0_2]) (t := 81) ?hr ?_; (case hd => rfl); (case hg => rfl); (case hr => first | (go_simp; done) | (go_simp; rfl)); intro gb155 hg w2 hbox hb; have n0_ := Aside0.mk (below_step (by repeat (first | (with_reducible first | exact HB.out | apply below_alloc | apply pw_below_drewN | apply below_drew1) | exact HB.out)) hb); have n1_ := Aside0.mk (hbox); have n2_ := Aside0.mk ((by rw [hg]; exact (below_size (by repeat (first | (with_reducible first | exact HB.out | apply below_alloc | apply pw_below_drewN | apply below_drew1) | exact HB.out))) : w.heap.size ≤ gb155)); have n3_ := Aside0.mk ((by rw [hg]; exact (below_size (by repeat (first | (with_reducible first | exact HB.out | apply below_alloc | apply pw_below_drewN | apply below_drew1) | exact HB.out))) : w.heap.size ≤ gb155)); clear HB; have HB := n0_; have BK155 := n1_; have GW155 := n2_; have GE155 := n3_; clear n0_ n1_ n2_ n3_; clear hb hbox hg) | ((with_reducible refine gate_dst (N := 2) rfl ?_); refine box_event ?hg (N := 2) ?hd (cs := #[.int .i64 0, .int .i64 0, .int .i64 0]) (t := 55) ?hr ?_; (case hd => rfl); (case hg => rfl); (case hr => first | (go_simp; done) | (go_simp; rfl)); intro gb156 hg w3 hbox hb; have n0_ := Aside0.mk (blk_below (g := gb155) (o := .cells #[.int .i64 a0_0, .int .i64 a0_1, .int .i64 a0_2] 81 (0, 0)) (by (with_reducible repeat (first | refine blk_drewN ?_ _ | refine blk_drew ?_ | refine blk_alloc ?_ _)); exact BK155.out) hb); have n1_ := Aside0.mk (below_step (by repeat (first | (with_reducible first | exact HB.out | apply below_alloc | apply pw_below_drewN | apply below_drew1 | refine below_set ?_ GE155.out) | exact HB.out)) hb); have n2_ := Aside0.mk (hbox); have n3_ := Aside0.mk ((by rw [hg]; exact (below_size (by repeat (first | (with_reducible first | exact HB.out | apply below_alloc | apply pw_below_drewN | apply below_drew1 | refine below_set ?_ GE155.out) | exact HB.out))) : w.heap.size ≤ gb156)); have n4_ := Aside0.mk ((by rw [hg]; exact (below_size (by repeat (first | (with_reducible first | exact HB.out | apply below_alloc | apply pw_below_drewN | apply below_drew1 | refine below_set ?_ GE155.out) | exact HB.out))) : w.heap.size ≤ gb156)); have n5_ := Aside0.mk ((by rw [hg]; exact Nat.ne_of_lt (blk_lt (g := gb155) (o := .cells #[.int .i64 a0_0, .int .i64 a0_1, .int .i64 a0_2] 81 (0, 0)) (by (with_reducible repeat (first | refine blk_drewN ?_ _ | refine blk_drew ?_ | refine blk_alloc ?_ _)); exact BK155.out)) : gb155 ≠ gb156)); have n6_ := Aside0.mk ((by rw [hg]; exact Nat.ne_of_gt (blk_lt (g := gb155) (o := .cells #[.int .i64 a0_0, .int .i64 a0_1, .int .i64 a0_2] 81 (0, 0)) (by (with_reducible repeat (first | refine blk_drewN ?_ _ | refine blk_drew ?_ | refine blk_alloc ?_ _)); exact BK155.out)) : gb156 ≠ gb155)); clear BK155; clear HB; have BK155 := n0_; have HB := n1_; have BK156 := n2_; have GW156 := n3_; have GE156 := n4_; have NB155_156 := n5_; have NB156_155 := n6_; clear n0_ n1_ n2_ n3_ n4_ n5_ n6_; clear hb hbox hg) | ((with_reducible refine gate_dst (N := 3) rfl ?_); refine box_event ?hg (N := 3) ?hd (cs := #[.int .i64 0, .int .i64 0, .int .i64 0]) (t := 55) ?hr ?_; (case hd => rfl); (case hg => rfl); (case hr => first | (go_simp; done) | (go_simp; rfl)); intro gb157 hg w4 hbox hb; have n0_ := Aside0.mk (blk_below (g := gb155) (o := .cells #[.int .i64 a0_0, .int .i64 a0_1, .int .i64 a0_2] 81 (0, 0)) (by (with_reducible repeat (first | refine blk_drewN ?_ _ | refine blk_drew ?_ | refine blk_alloc ?_ _)); exact BK155.out) hb); have n1_ := Aside0.mk (blk_below (g := gb156) (o := .cells #[.int .i64 0, .int .i64 0, .int .i64 0] 55 (0, 0)) (by (with_reducible repeat (first | refine blk_drewN ?_ _ | refine blk_drew ?_ | refine blk_alloc ?_ _)); exact BK156.out) hb); have n2_ := Aside0.mk (below_step (by repeat (first | (with_reducible first | exact HB.out | apply below_alloc | apply pw_below_drewN | apply below_drew1 | refine below_set ?_ GE155.out | refine below_set ?_ GE156.out) | exact HB.out)) hb); have n3_ := Aside0.mk (hbox); have n4_ := Aside0.mk ((by rw [hg]; exact (below_size (by repeat (first | (with_reducible first | exact HB.out | apply below_alloc | apply pw_below_drewN | apply below_drew1 | refine below_set ?_ GE155.out | refine below_set ?_ GE156.out) | exact HB.out))) : w.heap.size ≤ gb157)); have n5_ := Aside0.mk ((by rw [hg]; exact (below_size (by repeat (first | (with_reducible first | exact HB.out | apply below_alloc | apply pw_below_drewN | apply below_drew1 | refine below_set ?_ GE155.out | refine below_set ?_ GE156.out) | exact HB.out))) : w.heap.size ≤ gb157)); have n6_ := Aside0.mk ((by rw [hg]; exact Nat.ne_of_lt (blk_lt (g := gb155) (o := .cells #[.int .i64 a0_0, .int .i64 a0_1, .int .i64 a0_2] 81 (0, 0)) (by (with_reducible repeat (first | refine blk_drewN ?_ _ | refine blk_drew ?_ | refine blk_alloc ?_ _)); exact BK155.out)) : gb155 ≠ gb157)); have n7_ := Aside0.mk ((by rw [hg]; exact Nat.ne_of_gt (blk_lt (g := gb155) (o := .cells #[.int .i64 a0_0, .int .i64 a0_1, .int .i64 a0_2] 81 (0, 0)) (by (with_reducible repeat (first | refine blk_drewN ?_ _ | refine blk_drew ?_ | refine blk_alloc ?_ _)); exact BK155.out)) : gb157 ≠ gb155)); have n8_ := Aside0.mk ((by rw [hg]; exact Nat.ne_of_lt (blk_lt (g := gb156) (o := .cells #[.int .i64 0, .int .i64 0, .int .i64 0] 55 (0, 0)) (by (with_reducible repeat (first | refine blk_drewN ?_ _ | refine blk_drew ?_ | refine blk_alloc ?_ _)); exact BK156.out)) : gb156 ≠ gb157)); have n9_ := Aside0.mk ((by rw [hg]; exact Nat.ne_of_gt (blk_lt (g := gb156) (o := .cells #[.int .i64 0, .int .i64 0, .int .i64 0] 55 (0, 0)) (by (with_reducible repeat (first | refine blk_drewN ?_ _ | refine blk_drew ?_ | refine blk_alloc ?_ _)); exact BK156.out)) : gb157 ≠ gb156)); clear BK155; clear BK156; clear HB; have BK155 := n0_; have BK156 := n1_; have HB := n2_; have BK157 := n3_; have GW157 := n4_; have GE157 := n5_; have NB155_157 := n6_; have NB157_155 := n7_; have NB156_157 := n8_; have NB157_156 := n9_; clear n0_ n1_ n2_ n3_ n4_ n5_ n6_ n7_ n8_ n9_; clear hb hbox hg; have hnb5 := NB155_156.out; have hnc5 := NB156_155.out; have hnb6 := NB155_157.out; have hnc6 := NB157_155.out; have hcz7_0 : w4.cell? ⟨gb155, 0, none⟩ = some (.int .i64 a0_0) := (blk_cell BK155.out 0).trans rfl; have hcz7_1 : w4.cell? ⟨gb155, 1, none⟩ = some (.int .i64 a0_1) := (blk_cell BK155.out 1).trans rfl; have hcz7_2 : w4.cell? ⟨gb155, 2, none⟩ = some (.int .i64 a0_2) := (blk_cell BK155.out 2).trans rfl; have hfz7_0 := blk_frozen BK155.out 0; have hfz7_1 := blk_frozen BK155.out 1; have hfz7_2 := blk_frozen BK155.out 2; have hnb8 := NB157_156.out; have hnc8 := NB156_157.out; have hcz9_0 : w4.cell? ⟨gb157, 0, none⟩ = some (.int .i64 0) := (blk_cell BK157.out 0).trans rfl; have hcz9_1 : w4.cell? ⟨gb157, 1, none⟩ = some (.int .i64 0) := (blk_cell BK157.out 1).trans rfl; have hcz9_2 : w4.cell? ⟨gb157, 2, none⟩ = some (.int .i64 0) := (blk_cell BK157.out 2).trans rfl; have hfz9_0 := blk_frozen BK157.out 0; have hfz9_1 := blk_frozen BK157.out 1; have hfz9_2 := blk_frozen BK157.out 2; have hcz10_0 : w4.cell? ⟨gb156, 0, none⟩ = some (.int .i64 0) := (blk_cell BK156.out 0).trans rfl; have hcz10_1 : w4.cell? ⟨gb156, 1, none⟩ = some (.int .i64 0) := (blk_cell BK156.out 1).trans rfl; have hcz10_2 : w4.cell? ⟨gb156, 2, none⟩ = some (.int .i64 0) := (blk_cell BK156.out 2).trans rfl; have hfz10_0 := blk_frozen BK156.out 0; have hfz10_1 := blk_frozen BK156.out 1; have hfz10_2 := blk_frozen BK156.out 2))
  refine bodyPost_ret (results_cell_row rfl _ _ gb156 55 #[.int .i64 a0_0, .int .i64 a0_1, .int .i64 a0_2] (0, 0) _ rfl (by (with_reducible repeat (first | refine blk_drewN ?_ _ | refine blk_drew ?_ | refine blk_alloc ?_ _)); refine blk_put (cs := #[.int .i64 a0_0, .int .i64 a0_1, .int .i64 0]) ?_ 2 _ rfl; (with_reducible repeat (first | refine blk_drewN ?_ _ | refine blk_drew ?_ | refine blk_alloc ?_ _)); refine blk_put (cs := #[.int .i64 a0_0, .int .i64 0, .int .i64 0]) ?_ 1 _ rfl; (with_reducible repeat (first | refine blk_drewN ?_ _ | refine blk_drew ?_ | refine blk_alloc ?_ _)); refine blk_put (cs := #[.int .i64 0, .int .i64 0, .int .i64 0]) ?_ 0 _ rfl; (with_reducible repeat (first | refine blk_drewN ?_ _ | refine blk_drew ?_ | refine blk_alloc ?_ _)); refine blk_far ?_ NB156_157.out _; (with_reducible repeat (first | refine blk_drewN ?_ _ | refine blk_drew ?_ | refine blk_alloc ?_ _)); refine blk_far ?_ NB156_157.out _; (with_reducible repeat (first | refine blk_drewN ?_ _ | refine blk_drew ?_ | refine blk_alloc ?_ _)); refine blk_far ?_ NB156_157.out _; (with_reducible repeat (first | refine blk_drewN ?_ _ | refine blk_drew ?_ | refine blk_alloc ?_ _)); exact BK156.out) Try.underlying55 rfl (by kernel_rfl)) rfl ?_
  exact ⟨by first | rfl | (simp [errW_none, errW_some] <;> rfl) | (simp [*, errW_none, errW_some] <;> rfl), by repeat (first | (with_reducible first | exact HB.out | apply below_alloc | apply pw_below_drewN | apply below_drew1 | refine below_set ?_ GE155.out | refine below_set ?_ GE156.out | refine below_set ?_ GE157.out) | exact HB.out)⟩

end Go.Proofs.Ytennnaibnlmjlaa.V
