/- Draws of puzzles and of their texts: they always come, and what is drawn is small. Conditions: as typed. -/
import Derived.Test.YtecdijlfnnminaaGreatDoorQ3
import Derived.Test.YtecdijlfnnminaaGreatDoorQ4
import Derived.Test.YtecdijlfnnminaaGreatDoorR0
import Derived.Test.YtecdijlfnnminaaGreatDoorQ2
set_option linter.all false
namespace Go.Proofs.YtecdijlfnnminaaGreatDoor.Q
open Go.RowKit Go Go.Proofs.YtecdijlfnnminaaGreatDoor.Eng Go.Proofs.YtecdijlfnnminaaGreatDoor Go.Proofs.YtecdijlfnnminaaGreatDoor.Y
set_option linter.unusedSimpArgs false
set_option linter.unusedVariables false

theorem spoilt_l {code : List Int} (hc : Byt code) (wth : List UInt8) (hw : 1 ≤ wth.length) (n : Nat) : ∀ (t : List UInt8) (a s : Int), n ≤ 100 → t.length + n ≤ 1000000 → 0 ≤ a → a + 6 * (n : Int) ≤ 1800000 → ∃ t' a' s', t'.length ≤ t.length + n ∧ a ≤ a' ∧ a' ≤ a + 6 * (n : Int) ∧ Big (fun k => spec_l1Cur_spoilt.l0 k t wth (n : Int) code a s) (t', code, a', s') := by
 induction n with
 | zero =>
  intro t a s _ _ h0 _
  refine ⟨t, a, s, by omega, by omega, by omega, Big.succ ?_⟩
  unfold spec_l1Cur_spoilt.l0
  refine Big.neg (by omega) (Big.succ ?_)
  unfold spec_l1Cur_spoilt.j0
  exact Big.neg (by decide) (Big.some_ _)
 | succ n ih =>
  intro t a s hn ht h0 ha
  by_cases hz : t.length = 0
  ·refine ⟨t, a, s, by omega, by omega, by omega, Big.succ ?_⟩
   unfold spec_l1Cur_spoilt.l0
   rw [decide_eq_false (show ¬ (t.length : Int) > 0 by omega)]
   refine Big.pos (by omega) (Big.succ ?_)
   unfold spec_l1Cur_spoilt.j0
   exact Big.neg (by decide) (Big.some_ _)
  ·obtain ⟨i, a1, s1, e1, hi, h1, h2⟩ := pick_at hc a s (t.length : Int) (by omega) (by omega)
   obtain ⟨c, a2, s2, e2, hcc, h3, h4⟩ := pick_at hc a1 s1 (wth.length : Int) (by omega) (by omega)
   obtain ⟨m, a3, s3, e3, hm, h5, h6⟩ := pick_at hc a2 s2 3 (by omega) (by omega)
   have hw1 : IntKind.i64.wrap (i + 1) = i + 1 := w64 (by omega) (by omega)
   have hn1 : IntKind.i64.wrap (((n + 1 : Nat) : Int) - 1) = (n : Int) := by rw [w64 (by omega) (by omega)]; omega
   have lt : (t.take i.toNat).length = i.toNat := by rw [List.length_take]; omega
   have ld : (t.drop i.toNat).length = t.length - i.toNat := List.length_drop
   have ld1 : (t.drop (i + 1).toNat).length = t.length - (i + 1).toNat := List.length_drop
   have head : ∀ {r : List UInt8 × List Int × Int × Int}, Big (fun k => spec_l1Cur_spoilt.j0 k t wth ((n + 1 : Nat) : Int) true code a s) r → Big (fun k => spec_l1Cur_spoilt.l0 k t wth ((n + 1 : Nat) : Int) code a s) r := by
    intro r hr
    refine Big.succ ?_
    unfold spec_l1Cur_spoilt.l0
    refine Big.pos (by omega) ?_
    rw [decide_eq_true (show (t.length : Int) > 0 by omega)]
    exact hr
   by_cases m0 : m = 0
   ·obtain ⟨t', a', s', g1, g2, g3, g4⟩ := ih ((t.take i.toNat ++ ([((rde wth c).toNat : Int)].map fun n => UInt8.ofNat n.toNat)) ++ t.drop i.toNat) a3 s3 (by omega) (by simp; omega) (by omega) (by omega)
    refine ⟨t', a', s', by simp at g1; omega, by omega, by omega, head (Big.succ ?_)⟩
    unfold spec_l1Cur_spoilt.j0
    refine Big.pos rfl (Big.bind (Big.of e1) (Big.bind (Big.of e2) (Big.pos (by simp only; omega) (Big.pos (by simp only; omega) (Big.bind (Big.of e3) (Big.pos m0 ?_))))))
    refine Big.pos (by simp only; omega) (Big.pos (by simp only; omega) (Big.pos (by simp; omega) (Big.pos (by simp; omega) ?_)))
    rw [hn1]
    exact g4
   ·by_cases m1 : m = 1
    ·obtain ⟨t', a', s', g1, g2, g3, g4⟩ := ih ((t.take i.toNat ++ ([((rde wth c).toNat : Int)].map fun n => UInt8.ofNat n.toNat)) ++ t.drop (i + 1).toNat) a3 s3 (by omega) (by simp; omega) (by omega) (by omega)
     refine ⟨t', a', s', by simp at g1; omega, by omega, by omega, head (Big.succ ?_)⟩
     unfold spec_l1Cur_spoilt.j0
     refine Big.pos rfl (Big.bind (Big.of e1) (Big.bind (Big.of e2) (Big.pos (by simp only; omega) (Big.pos (by simp only; omega) (Big.bind (Big.of e3) (Big.neg m0 (Big.pos m1 ?_)))))))
     simp only [hw1, hn1]
     refine Big.pos (by omega) (Big.pos (by omega) (Big.pos (by simp; omega) (Big.pos (by omega) (Big.pos (by omega) (Big.pos (by simp; omega) ?_)))))
     exact g4
    ·obtain ⟨t', a', s', g1, g2, g3, g4⟩ := ih (t.take i.toNat ++ t.drop (i + 1).toNat) a3 s3 (by omega) (by simp; omega) (by omega) (by omega)
     refine ⟨t', a', s', by simp at g1; omega, by omega, by omega, head (Big.succ ?_)⟩
     unfold spec_l1Cur_spoilt.j0
     refine Big.pos rfl (Big.bind (Big.of e1) (Big.bind (Big.of e2) (Big.pos (by simp only; omega) (Big.pos (by simp only; omega) (Big.bind (Big.of e3) (Big.neg m0 (Big.neg m1 ?_)))))))
     simp only [hw1, hn1]
     refine Big.pos (by omega) (Big.pos (by omega) (Big.pos (by omega) (Big.pos (by omega) (Big.pos (by simp; omega) ?_))))
     exact g4
theorem spoilt_at {code : List Int} (hc : Byt code) (t wth : List UInt8) (hw : 1 ≤ wth.length) (ht : t.length ≤ 900000) (a s : Int) (ha : 0 ≤ a ∧ a ≤ 1700000) : ∃ t' a' s', t'.length ≤ t.length + 2 ∧ Big (fun k => spec_l1Cur_spoilt.f k code a s t wth) (t', code, a', s') := by
 obtain ⟨x, a1, s1, e1, hx, h1, h2⟩ := pick_at hc a s 2 (by omega) (by omega)
 obtain ⟨n, rfl⟩ : ∃ n : Nat, x = (n : Int) := ⟨x.toNat, by omega⟩
 obtain ⟨t', a', s', g1, g2, g3, g4⟩ := spoilt_l hc wth hw (n + 1) t a1 s1 (by omega) (by omega) (by omega) (by omega)
 refine ⟨t', a', s', by omega, ?_⟩
 unfold spec_l1Cur_spoilt.f
 refine Big.bind (Big.of e1) ?_
 have e : IntKind.i64.wrap (1 + (n : Int)) = ((n + 1 : Nat) : Int) := by rw [w64 (by omega) (by omega)]; omega
 simp only [e]
 exact g4
theorem surePuzzleW_at {code : List Int} (hc : Byt code) (a s m : Int) (hm : 0 ≤ m ∧ m ≤ 100) (ha : 0 ≤ a ∧ a ≤ 1700000) : ∃ P C a' s', (puz P C = true ∨ (P = 0 ∧ C = [])) ∧ Big (fun k => spec_l1Cur_surePuzzle_w.f k code a s m) ((P, C), code, a', s') ∧ a ≤ a' ∧ a' ≤ a + 12 := by
 obtain ⟨L, a1, s1, hL, e1, h1, h2⟩ := hidden_at hc a s (by omega)
 obtain ⟨x, a2, s2, e2, hx, h3, h4⟩ := pick_at hc a1 s1 (m + 1) (by omega) (by omega)
 obtain ⟨y, a3, s3, e3, hy, h5, h6⟩ := pick_at hc a2 s2 10000 (by omega) (by omega)
 obtain ⟨P, C, ok, _, h7, hB⟩ := MakeS_at L x y (by have := hid_len hL; omega)
 refine ⟨P, C, a3, s3, h7, ?_, by omega, by omega⟩
 unfold spec_l1Cur_surePuzzle_w.f
 rw [w64 (i := m + 1) (by omega) (by omega)]
 exact Big.bind (Big.of e1) (Big.bind (Big.of e2) (Big.bind (Big.of e3) (Big.bind hB (Big.some_ _))))
theorem pzText_zero : Big (fun k => spec_pzText.f k (0, [])) (Go.Lib.itoa 0 ++ [97]) := by
 obtain ⟨hn, hlen⟩ := num_at 0 (by omega)
 unfold spec_pzText.f
 refine Big.bind hn (Big.pos (by omega) (Big.succ ?_))
 unfold spec_pzText.l0
 exact Big.neg (by simp) (Big.some_ _)
theorem pzText_small {P : Int} {C : List (Int × Int × Int)} (h : puz P C = true ∨ (P = 0 ∧ C = [])) : ∃ t : List UInt8, t.length ≤ 1000 ∧ Big (fun k => spec_pzText.f k (P, C)) t := by
 rcases h with h | ⟨rfl, rfl⟩
 ·have := (puz_split h).2.2.1
  exact ⟨_, by omega, pzText_at h⟩
 ·have := (num_at 0 (by omega)).2
  exact ⟨_, by rw [List.length_append, List.length_singleton]; omega, pzText_zero⟩
/-- A text to be read is drawn. -/
theorem drawParse {code : List Int} (hc : Byt code) : ∃ t : List UInt8, t.length ≤ 1048576 ∧ Big (fun k => spec_DrawParsePuzzle.f k code) t := by
 obtain ⟨P, C, a1, s1, hP, hB, h1, h2⟩ := surePuzzleW_at hc 0 0 4 (by omega) (by omega)
 obtain ⟨t, ht, hT⟩ := pzText_small hP
 obtain ⟨b, a2, s2, e2, h3, h4⟩ := one_at hc a1 s1 3 (by omega) (by omega)
 unfold spec_DrawParsePuzzle.f
 cases b
 ·exact ⟨t, by omega, Big.bind hB (Big.bind hT (Big.bind (Big.of e2) (Big.neg Bool.false_ne_true (Big.some_ _))))⟩
 ·obtain ⟨t', a3, s3, h5, hS⟩ := spoilt_at hc t [48, 49, 50, 51, 52, 53, 54, 46, 44, 97] (by simp) (by omega) a2 s2 (by omega)
  exact ⟨t', by omega, Big.bind hB (Big.bind hT (Big.bind (Big.of e2) (Big.pos rfl (Big.bind hS (Big.some_ _)))))⟩
/-- A puzzle is drawn. -/
theorem drawSols {code : List Int} (hc : Byt code) : ∃ P C, C.length ≤ 7 ∧ Big (fun k => spec_DrawSolutions.f k code) (P, C) := by
 obtain ⟨P, C, a1, s1, hC, _, _, hB⟩ := puzzle_at hc 0 0 (by omega)
 refine ⟨P, C, hC, ?_⟩
 unfold spec_DrawSolutions.f spec_DrawIsPuzzle.f
 exact Big.bind (Big.bind hB (Big.some_ _)) (Big.some_ _)
end Go.Proofs.YtecdijlfnnminaaGreatDoor.Q
set_option linter.all false
namespace Go.Proofs.YtecdijlfnnminaaGreatDoor.Q
open Go.RowKit Go Go.Proofs.YtecdijlfnnminaaGreatDoor.Eng Go.Proofs.YtecdijlfnnminaaGreatDoor Go.Proofs.YtecdijlfnnminaaGreatDoor.Y
set_option linter.unusedSimpArgs false

theorem lookN_fit (cl : List (Int × Int × Int)) : ∀ (n : Nat) (b : List Int), ∀ x ∈ lookN cl n b, fitAll cl x = true
 | 0, b, x, hx => by
  unfold lookN at hx
  cases h : fitAll cl b <;> simp [h] at hx
  rw [hx]
  exact h
 | n + 1, b, x, hx => by
  unfold lookN at hx
  obtain ⟨i, _, hy⟩ := agesN_mem 12 hx
  exact lookN_fit cl n _ x hy
theorem sols_fit {p : Int} {cl : List (Int × Int × Int)} {x : List Int} (h : x ∈ sols p cl) : ∀ c ∈ cl, fitN c.1 c.2.1 c.2.2 x = true := by
 have := lookN_fit cl _ _ x h
 unfold fitAll at this
 rw [List.all_eq_true] at this
 exact this
theorem areAges_yes (l : List Int) (hl : 2 ≤ (l.length : Int) ∧ (l.length : Int) ≤ 3) (hy : yrs12 l) : impl_AreAges.f l = some true := by
 have e : (l.all fun x => decide (0 ≤ x) && decide (x ≤ 120)) = true := by
  rw [List.all_eq_true]
  intro x hx
  have := hy x hx
  rw [Bool.and_eq_true, decide_eq_true_iff, decide_eq_true_iff]
  omega
 unfold impl_AreAges.f impl_areBetween.f
 rw [v_between, inR_iff.mpr (show 1 ≤ (l.length : Int) ∧ (l.length : Int) ≤ 8 by omega), if_pos (show l.length < 4611686018427387904 by omega), e]
 rfl
theorem qHas_l (x : Int) (l : List Int) (hl : l.length ≤ 2000000) (t : List Int) : ∀ i : Nat, l.drop i = t → i ≤ l.length → Big (fun k => laws_qHas.l0 k x l (l.length : Int) i) (decide (x ∈ t)) := by
 induction t with
 | nil =>
  intro i hd hi
  rw [List.drop_eq_nil_iff] at hd
  refine Big.succ ?_
  unfold laws_qHas.l0
  exact Big.neg (by omega) (by simp; exact Big.some_ _)
 | cons a t ih =>
  intro i hd hi
  have hlt : i < l.length := by
   rcases Nat.lt_or_ge i l.length with h | h
   ·exact h
   ·rw [List.drop_eq_nil_of_le h] at hd; cases hd
  rw [List.drop_eq_getElem_cons hlt] at hd
  injection hd with e1 e2
  have er : rde l (i : Int) = a := by rw [rde_nat l i hlt, e1]
  refine Big.succ ?_
  unfold laws_qHas.l0
  rw [er, w64n (by omega)]
  refine Big.pos (by omega) (Big.pos (by omega) (Big.pos (by omega) ?_))
  by_cases h : a = x
  ·rw [decide_eq_true (show x ∈ a :: t by rw [h]; exact List.mem_cons_self)]
   exact Big.pos h (Big.some_ _)
  ·have e : decide (x ∈ a :: t) = decide (x ∈ t) := by
    apply decide_eq_decide.mpr
    rw [List.mem_cons]
    exact ⟨fun hh => hh.resolve_left (fun e => h e.symm), .inr⟩
   rw [e]
   exact Big.neg h (ih (i + 1) e2 (by omega))
theorem qHas_at (l : List Int) (x : Int) (hl : l.length ≤ 2000000) : Big (fun k => laws_qHas.f k l x) (decide (x ∈ l)) := by
 unfold laws_qHas.f
 exact qHas_l x l hl l 0 rfl (by omega)
theorem qBefore_l (p s t : List Int) (u v : Int) (h : u < v) (hl : (p ++ u :: s).length ≤ 2000000) (hst : s.length = t.length) (d : Nat) : ∀ i : Nat, i + d = p.length → Big (fun k => laws_qBefore.l0 k (p ++ u :: s) (p ++ v :: t) (p ++ u :: s) ((p ++ u :: s).length : Int) i) true := by
 have la : (p ++ u :: s).length = p.length + s.length + 1 := by rw [List.length_append, List.length_cons]; omega
 have lb : (p ++ v :: t).length = p.length + s.length + 1 := by rw [List.length_append, List.length_cons]; omega
 induction d with
 | zero =>
  intro i hi
  have e1 : rde (p ++ u :: s) (i : Int) = u := by
   rw [rde_nat _ i (by omega), List.getElem_append_right (by omega)]
   simp [show i - p.length = 0 by omega]
  have e2 : rde (p ++ v :: t) (i : Int) = v := by
   rw [rde_nat _ i (by omega), List.getElem_append_right (by omega)]
   simp [show i - p.length = 0 by omega]
  refine Big.succ ?_
  unfold laws_qBefore.l0
  rw [e1, e2]
  refine Big.pos (by omega) (Big.pos (by omega) (Big.pos (by omega) (Big.neg (by omega) (Big.pos (by omega) (Big.neg (by omega) ?_)))))
  rw [decide_eq_true h]
  exact Big.some_ _
 | succ d ih =>
  intro i hi
  have e1 : rde (p ++ u :: s) (i : Int) = rde (p ++ v :: t) (i : Int) := by
   rw [rde_nat _ i (by omega), rde_nat _ i (by omega), List.getElem_append_left (by omega), List.getElem_append_left (by omega)]
  refine Big.succ ?_
  unfold laws_qBefore.l0
  rw [w64n (by omega)]
  exact Big.pos (by omega) (Big.pos (by omega) (Big.pos (by omega) (Big.neg (by omega) (Big.pos (by omega) (Big.pos e1 (ih (i + 1) (by omega)))))))
theorem qBefore_at {a b : List Int} (h : lexL a b) (hl : a.length = b.length) (h2 : a.length ≤ 2000000) : Big (fun k => laws_qBefore.f k a b) true := by
 obtain ⟨p, u, v, s, t, rfl, rfl, huv⟩ := h
 unfold laws_qBefore.f
 exact qBefore_l p s t u v huv h2 (by rw [List.length_append, List.length_append, List.length_cons, List.length_cons] at hl; omega) p.length 0 (by omega)
theorem qOrdered_l (S : List (List Int)) (hl : S.length ≤ 2000000) (hp : S.Pairwise lexL) (n : Nat) (hn : n ≤ 2000000) (hr : ∀ r ∈ S, r.length = n) (d : Nat) : ∀ i : Nat, 1 ≤ i → i + d = S.length → Big (fun k => laws_qOrdered.l0 k S i) true := by
 induction d with
 | zero =>
  intro i h1 hi
  refine Big.succ ?_
  unfold laws_qOrdered.l0
  exact Big.neg (by omega) (Big.some_ _)
 | succ d ih =>
  intro i h1 hi
  have hw : IntKind.i64.wrap ((i : Int) - 1) = ((i - 1 : Nat) : Int) := by rw [w64 (by omega) (by omega)]; omega
  have hlx : lexL (S[i - 1]'(by omega)) (S[i]'(by omega)) := List.pairwise_iff_getElem.1 hp (i - 1) i (by omega) (by omega) (by omega)
  have ha := hr _ (List.getElem_mem (show i - 1 < S.length by omega))
  have hb := hr _ (List.getElem_mem (show i < S.length by omega))
  refine Big.succ ?_
  unfold laws_qOrdered.l0
  rw [hw, w64n (by omega), rde_nat S (i - 1) (by omega), rde_nat S i (by omega)]
  exact Big.pos (by omega) (Big.pos (by omega) (Big.pos (by omega) (Big.pos (by omega) (Big.bind (qBefore_at hlx (by omega) (by omega)) (Big.pos rfl (ih (i + 1) (by omega) (by omega)))))))
theorem qOrdered_at (S : List (List Int)) (hl : S.length ≤ 2000000) (hp : S.Pairwise lexL) (n : Nat) (hn : n ≤ 2000000) (hr : ∀ r ∈ S, r.length = n) : Big (fun k => laws_qOrdered.f k S) true := by
 unfold laws_qOrdered.f
 by_cases h : S.length = 0
 ·refine Big.succ ?_
  unfold laws_qOrdered.l0
  exact Big.neg (by omega) (Big.some_ _)
 ·exact qOrdered_l S hl hp n hn hr (S.length - 1) 1 (by omega) (by omega)
end Go.Proofs.YtecdijlfnnminaaGreatDoor.Q
set_option linter.all false
namespace Go.Proofs.YtecdijlfnnminaaGreatDoor.Q
open Go.RowKit Go Go.Proofs.YtecdijlfnnminaaGreatDoor.Eng Go.Proofs.YtecdijlfnnminaaGreatDoor Go.Proofs.YtecdijlfnnminaaGreatDoor.Y
set_option linter.unusedSimpArgs false
set_option linter.unusedVariables false

theorem ne (x : Bool) : ¬ (x != x) = true := by cases x <;> decide
theorem PuzzleText_i (p : Int) (l : List (Int × Int × Int)) : Big (fun k => impl_PuzzleText.f k (p, l)) (if puz p l = true then (puzText p l, true) else ([], false)) := by
 unfold impl_PuzzleText.f
 refine Big.bind (IsPuzzle_at p l) ?_
 cases h : puz p l
 ·exact Big.neg Bool.false_ne_true (by simp only [Bool.false_eq_true, if_false]; exact Big.some_ _)
 ·simp only [if_true]
  exact Big.bind (puzText_at h) (Big.some_ _)
theorem PuzzleText_s (p : Int) (l : List (Int × Int × Int)) : Big (fun k => spec_PuzzleText.f k (p, l)) (if puz p l = true then (puzText p l, true) else ([], false)) := by
 unfold spec_PuzzleText.f
 refine Big.bind (pzGood_at p l) ?_
 cases h : puz p l
 ·exact Big.neg Bool.false_ne_true (by simp only [Bool.false_eq_true, if_false]; exact Big.some_ _)
 ·simp only [if_true]
  exact Big.bind (pzText_at h) (Big.some_ _)
theorem Parse2 (a : List UInt8) (hs : a.length ≤ 1048576) : ∃ (p : Int) (L : List (Int × Int × Int)) (ok : Bool), L.length ≤ 1048576 ∧ Big (fun k => spec_ParsePuzzle.f k a) ((p, L), ok) ∧ Big (fun k => impl_ParsePuzzle.f k a) ((p, L), ok) ∧ (ok = true → puz p L = true ∧ a = puzText p L) := by
 by_cases h : ∃ (p : Int) (L : List (Int × Int × Int)), puz p L = true ∧ a = puzText p L
 ·obtain ⟨p, L, h1, h2⟩ := h
  exact ⟨p, L, true, by have := (puz_iff h1).2.1; omega, ParsePuzzle_spec_yes a p L h1 h2, ParsePuzzle_impl_yes a p L h1 h2, fun _ => ⟨h1, h2⟩⟩
 ·have hN : noPuz a := fun p L h1 h2 => h ⟨p, L, h1, h2⟩
  exact ⟨0, [], false, by simp, ParsePuzzle_spec_no a hs hN, ParsePuzzle_impl_no a hs hN, fun hh => by cases hh⟩

/-! ### a text, read and written -/
theorem j6_ok {more : List Int} (hc : Byt more) : Big (fun k => laws_FnAgesGuessed.j6 k more) true := by
 obtain ⟨t, ht, hD⟩ := drawParse hc
 obtain ⟨p, L, ok, hL, hS, hI, hok⟩ := Parse2 t ht
 refine Big.succ ?_
 unfold laws_FnAgesGuessed.j6
 refine Big.bind hD (Big.bind hI ?_)
 refine Big.succ ?_
 unfold laws_FnAgesGuessed.j7
 refine Big.bind hS (Big.neg (ne _) (Big.bind (qPuzzle_self p L (by omega)) ?_))
 refine Big.succ ?_
 unfold laws_FnAgesGuessed.j8
 refine Big.neg Bool.false_ne_true ?_
 cases ok
 ·exact Big.neg Bool.false_ne_true (Big.some_ _)
 ·obtain ⟨h1, rfl⟩ := hok rfl
  have hT := PuzzleText_i p L
  rw [h1] at hT
  simp only [if_true] at hT
  refine Big.pos rfl (Big.bind hT (Big.pos rfl ?_))
  simp only [beq_self_eq_true]
  exact Big.some_ _

/-! ### each clue taken away -/
theorem l4_ok {more : List Int} (hc : Byt more) {P : Int} {C : List (Int × Int × Int)} (hg : puz P C = true) (b : Int) (hb : (C.length : Int) > 0 → 0 ≤ b ∧ b < (C.length : Int)) (d : Nat) : ∀ i : Nat, i + d = C.length → Big (fun k => laws_FnAgesGuessed.l4 k more ((sols P C).length : Int) (needN P C (sols P C).length C.length) (leftN P C (C.length + 1)) b (puzText P C) (C.length : Int) (i : Int) P C) true := by
 obtain ⟨hp, hl, hgd⟩ := puz_good hg
 induction d with
 | zero =>
  intro i hi
  refine Big.succ ?_
  unfold laws_FnAgesGuessed.l4
  exact Big.neg (by omega) (Big.bind (ParsePuzzle_impl_yes _ P C hg rfl) (Big.pos rfl (Big.bind (qPuzzle_self P C (by omega)) (Big.pos rfl (j6_ok hc)))))
 | succ d ih =>
  intro i hi
  have hge : puz P (C.eraseIdx i) = true := puz_of hp (by have := List.length_eraseIdx_le C i; omega) (good_erase hgd i)
  have hD := DropClue_i P C (i : Int)
  have hdo : dropOk P C (i : Int) = true := by
   unfold dropOk
   rw [hg, Bool.true_and, inR_iff]
   omega
  unfold dropR at hD
  rw [hdo, Int.toNat_natCast] at hD
  simp only [if_true] at hD
  have hN := iCount_at P (C.eraseIdx i)
  rw [hge] at hN
  simp only [if_true] at hN
  have hH := qHas_at (needN P C (sols P C).length C.length) (i : Int) (by have := needN_len P C (sols P C).length C.length; omega)
  have hm := needN_mem P C (sols P C).length i C.length
  have e : (decide ((i : Int) ∈ needN P C (sols P C).length C.length) != (((sols P (C.eraseIdx i)).length : Int) == ((sols P C).length : Int))) = false := by
   by_cases hq : (sols P (C.eraseIdx i)).length = (sols P C).length
   ·rw [decide_eq_true (hm.mpr ⟨by omega, hq⟩), beq_iff_eq.mpr (show ((sols P (C.eraseIdx i)).length : Int) = ((sols P C).length : Int) by omega)]
    rfl
   ·rw [decide_eq_false (fun hh => hq (hm.mp hh).2), beq_eq_false_iff_ne.mpr (show ((sols P (C.eraseIdx i)).length : Int) ≠ ((sols P C).length : Int) by omega)]
    rfl
  have hll := leftN_len P C (C.length + 1)
  have hf := leftN_falls P C i
  obtain ⟨hb1, hb2⟩ := hb (by omega)
  refine Big.succ ?_
  unfold laws_FnAgesGuessed.l4
  refine Big.pos (by omega) (Big.bind hD (Big.bind hN ?_))
  refine Big.succ ?_
  unfold laws_FnAgesGuessed.j5
  refine Big.pos rfl (Big.pos rfl (Big.bind hH (Big.neg (by rw [e]; exact Bool.false_ne_true) ?_)))
  simp only [w64n (show i < 9223372036854775807 by omega), leftN_at P C (C.length + 1) (i + 1) (by omega), leftN_at P C (C.length + 1) i (by omega)]
  exact Big.pos (by omega) (Big.pos (by omega) (Big.pos (by omega) (Big.pos (by omega) (Big.neg (by omega) (Big.neg (by omega) (Big.neg (by omega) (ih (i + 1) (by omega))))))))

/-! ### the rows -/
theorem l3_ok {x1 x18 x26 x30 x45 : List Int} {x6 : List (List Int)} {x10 x34 x398 x399 : Int} {x38 : List UInt8} {P : Int} {C : List (Int × Int × Int)} (hg : puz P C = true) (hx : x45 ∈ sols P C) (N : Big (fun k => laws_FnAgesGuessed.l1 k x1 x6 x10 x18 x26 x30 x34 x38 x398 (IntKind.i64.wrap (x399 + 1)) P C) true) (d : Nat) : ∀ i : Nat, i + d = C.length → Big (fun k => laws_FnAgesGuessed.l3 k x1 x6 x10 x18 x26 x30 x34 x38 x45 x398 x399 C (C.length : Int) (i : Int) P C) true := by
 obtain ⟨hp, hl, hgd⟩ := puz_good hg
 obtain ⟨hlen, hy⟩ := sols_row _ hp _ x45 hx
 have hh := hid_of hp hlen hy
 have hf := sols_fit hx
 induction d with
 | zero =>
  intro i hi
  refine Big.succ ?_
  unfold laws_FnAgesGuessed.l3
  exact Big.neg (by omega) N
 | succ d ih =>
  intro i hi
  have hlt : i < C.length := by omega
  have er : rde C (i : Int) = C[i] := rdT_nat C i hlt
  have hm := List.getElem_mem hlt
  have hD := DoesFit_at (C[i]).1 (C[i]).2.1 (C[i]).2.2 x45 hh (by rw [hlen]; exact hgd _ hm)
  rw [hf _ hm] at hD
  refine Big.succ ?_
  unfold laws_FnAgesGuessed.l3
  rw [er, w64n (by omega)]
  exact Big.pos (by omega) (Big.pos (by omega) (Big.pos (by omega) (Big.bind hD (Big.pos rfl (Big.pos rfl (ih (i + 1) (by omega)))))))
theorem l2_ok {x1 x18 x26 x30 x45 : List Int} {x6 : List (List Int)} {x10 x34 x44 x398 x399 xb5_0 : Int} {x38 : List UInt8} {xb5_1 : (List (Int × Int × Int))} (hl : x45.length = x18.length) (h6 : x18.length ≤ 6) (hs : ∀ k : Nat, k < x18.length → rde x18 (k : Int) = -1 ∨ rde x45 (k : Int) = rde x18 (k : Int)) (N : Big (fun k => if x44 > 40 then laws_FnAgesGuessed.l1 k x1 x6 x10 x18 x26 x30 x34 x38 x398 (IntKind.i64.wrap (x399 + 1)) xb5_0 xb5_1 else laws_FnAgesGuessed.l3 k x1 x6 x10 x18 x26 x30 x34 x38 x45 x398 x399 xb5_1 (xb5_1.length : Int) 0 xb5_0 xb5_1) true) (d : Nat) : ∀ i : Nat, i + d = x18.length → Big (fun k => laws_FnAgesGuessed.l2 k x1 x6 x10 x18 x26 x30 x34 x38 x44 x45 x398 x399 (x18.length : Int) (i : Int) xb5_0 xb5_1) true := by
 induction d with
 | zero =>
  intro i hi
  refine Big.succ ?_
  unfold laws_FnAgesGuessed.l2
  exact Big.neg (by omega) N
 | succ d ih =>
  intro i hi
  refine Big.succ ?_
  unfold laws_FnAgesGuessed.l2
  rw [w64n (by omega)]
  refine Big.pos (by omega) (Big.pos (by omega) (Big.pos (by omega) ?_))
  by_cases h0 : rde x18 (i : Int) ≥ 0
  ·have he : rde x45 (i : Int) = rde x18 (i : Int) := (hs i (by omega)).resolve_left (by omega)
   exact Big.pos h0 (Big.pos (by omega) (Big.pos he (ih (i + 1) (by omega))))
  ·exact Big.neg h0 (ih (i + 1) (by omega))
theorem l1_ok {x1 x18 x26 x30 : List Int} {x10 x34 : Int} {x38 : List UInt8} {P : Int} {C : List (Int × Int × Int)} (hg : puz P C = true) (hs : ∀ r ∈ sols P C, r.length = x18.length ∧ ∀ k : Nat, k < x18.length → rde x18 (k : Int) = -1 ∨ rde r (k : Int) = rde x18 (k : Int)) (N : Big (fun k => laws_FnAgesGuessed.l4 k x1 x10 x26 x30 x34 x38 (C.length : Int) 0 P C) true) (d : Nat) : ∀ i : Nat, i + d = (sols P C).length → Big (fun k => laws_FnAgesGuessed.l1 k x1 (sols P C) x10 x18 x26 x30 x34 x38 ((sols P C).length : Int) (i : Int) P C) true := by
 obtain ⟨hp, hl, hgd⟩ := puz_good hg
 have hn := sols_length P hp C
 induction d with
 | zero =>
  intro i hi
  refine Big.succ ?_
  unfold laws_FnAgesGuessed.l1
  exact Big.neg (by omega) N
 | succ d ih =>
  intro i hi
  have hlt : i < (sols P C).length := by omega
  have er : rde (sols P C) (i : Int) = (sols P C)[i] := rde_nat _ i hlt
  have hm := List.getElem_mem hlt
  obtain ⟨hlen, hy⟩ := sols_row _ hp _ _ hm
  obtain ⟨s1, s2⟩ := hs _ hm
  refine Big.succ ?_
  unfold laws_FnAgesGuessed.l1
  rw [er]
  refine Big.pos (by omega) (Big.pos (by omega) (Big.pos (by omega) (Big.pos hlen (Big.bind (Big.of (areAges_yes _ (by omega) hy)) ?_))))
  refine Big.succ ?_
  unfold laws_FnAgesGuessed.j4
  refine Big.neg (by decide) (l2_ok s1 (by omega) s2 ?_ x18.length 0 (by omega))
  have nx := ih (i + 1) (by omega)
  rw [← w64n (show i < 9223372036854775807 by omega)] at nx
  by_cases h40 : (i : Int) > 40
  ·exact Big.pos h40 nx
  ·exact Big.neg h40 (l3_ok hg hm nx C.length 0 (by omega))
end Go.Proofs.YtecdijlfnnminaaGreatDoor.Q
set_option linter.all false
namespace Go.Proofs.YtecdijlfnnminaaGreatDoor.Q
open Go.RowKit Go Go.Proofs.YtecdijlfnnminaaGreatDoor.Eng Go.Proofs.YtecdijlfnnminaaGreatDoor Go.Proofs.YtecdijlfnnminaaGreatDoor.Y
set_option linter.unusedSimpArgs false
set_option linter.unusedVariables false

theorem j3_ok {more : List Int} (hc : Byt more) {P : Int} {C : List (Int × Int × Int)} (hg : puz P C = true) (b : Int) (hb : (C.length : Int) > 0 → 0 ≤ b ∧ b < (C.length : Int)) (U : List Int) (hs : ∀ r ∈ sols P C, r.length = U.length ∧ ∀ k : Nat, k < U.length → rde U (k : Int) = -1 ∨ rde r (k : Int) = rde U (k : Int)) :
  Big (fun k => laws_FnAgesGuessed.j3 k more (sols P C) ((sols P C).length : Int) U (needN P C (sols P C).length C.length) (leftN P C (C.length + 1)) b (puzText P C) false P C) true := by
 refine Big.succ ?_
 unfold laws_FnAgesGuessed.j3
 exact Big.neg Bool.false_ne_true (l1_ok hg hs (l4_ok hc hg b hb C.length 0 (by omega)) (sols P C).length 0 (by omega))
theorem left_facts {P : Int} {C : List (Int × Int × Int)} (hp : 2 ≤ P ∧ P ≤ 3) : ((leftN P C (C.length + 1)).length : Int) = (C.length : Int) + 1 ∧ rde (leftN P C (C.length + 1)) 0 = (if P = 2 then 144 else 1728) ∧ rde (leftN P C (C.length + 1)) (C.length : Int) = ((sols P C).length : Int) := by
 refine ⟨by rw [leftN_len]; omega, ?_, ?_⟩
 ·have h := leftN_at P C (C.length + 1) 0 (by omega)
  rw [List.take_zero, sols_nil P hp] at h
  exact h
 ·have h := leftN_at P C (C.length + 1) C.length (by omega)
  rw [List.take_length] at h
  exact h
theorem sols_ord {P : Int} {C : List (Int × Int × Int)} (hp : 2 ≤ P ∧ P ≤ 3) : Big (fun k => laws_qOrdered.f k (sols P C)) true :=
 qOrdered_at _ (by have := sols_length P hp C; omega) (sols_pair P C) P.toNat (by omega) (fun r hr => by have := (sols_row P hp C r hr).1; omega)
/-- There is no solution. -/
theorem l0_none {more : List Int} (hc : Byt more) {P : Int} {C : List (Int × Int × Int)} (hg : puz P C = true) (b : Int) (hb : (C.length : Int) > 0 → 0 ≤ b ∧ b < (C.length : Int)) (h0 : (sols P C).length = 0) :
  Big (fun k => laws_FnAgesGuessed.l0 k more (sols P C) ((sols P C).length : Int) [] false [] ((((sols P C).length : Int) == 1)) (needN P C (sols P C).length C.length) (leftN P C (C.length + 1)) b (puzText P C) (if P = 2 then 144 else 1728) P P C) true := by
 obtain ⟨hp, hl, hgd⟩ := puz_good hg
 obtain ⟨f1, f2, f3⟩ := left_facts (C := C) hp
 have e22 : (((sols P C).length : Int) == 1) = false := beq_eq_false_iff_ne.mpr (by omega)
 have hw : IntKind.i64.wrap ((C.length : Int) + 1) = (C.length : Int) + 1 := w64 (by omega) (by omega)
 have J := j3_ok hc hg b hb [] (fun r hr => by
  have := List.length_pos_of_mem hr
  omega)
 refine Big.succ ?_
 unfold laws_FnAgesGuessed.l0
 refine Big.neg (by omega) (Big.pos rfl (Big.neg Bool.false_ne_true (Big.neg (ne _) (Big.pos (by rw [hw]; exact f1) (Big.pos (by omega) (Big.pos f2 (Big.pos (by omega) (Big.pos (by omega) (Big.pos f3 (Big.neg (by rw [e22]; exact Bool.false_ne_true) (Big.bind (sols_ord hp) J)))))))))))
/-- There is a solution. -/
theorem l0_some {more : List Int} (hc : Byt more) {P : Int} {C : List (Int × Int × Int)} (hg : puz P C = true) (b : Int) (hb : (C.length : Int) > 0 → 0 ≤ b ∧ b < (C.length : Int)) (h0 : (sols P C).length ≠ 0) :
  Big (fun k => laws_FnAgesGuessed.l0 k more (sols P C) ((sols P C).length : Int) (rde (sols P C) 0) true (sureN (rde (sols P C) 0) (sols P C)) ((((sols P C).length : Int) == 1)) (needN P C (sols P C).length C.length) (leftN P C (C.length + 1)) b (puzText P C) (if P = 2 then 144 else 1728) P P C) true := by
 obtain ⟨hp, hl, hgd⟩ := puz_good hg
 obtain ⟨f1, f2, f3⟩ := left_facts (C := C) hp
 have hw : IntKind.i64.wrap ((C.length : Int) + 1) = (C.length : Int) + 1 := w64 (by omega) (by omega)
 have er : rde (sols P C) 0 = (sols P C)[0]'(by omega) := rde_nat _ 0 (by omega)
 have hm0 : rde (sols P C) 0 ∈ sols P C := by rw [er]; exact List.getElem_mem _
 have hlen := (sols_row P hp C _ hm0).1
 have hsl : (sureN (rde (sols P C) 0) (sols P C)).length = (rde (sols P C) 0).length := sureN_length _ _
 have J := j3_ok hc hg b hb (sureN (rde (sols P C) 0) (sols P C)) (fun r hr => by
  have hr1 := (sols_row P hp C r hr).1
  refine ⟨by omega, fun k hk => ?_⟩
  rcases sureN_at (sols P C) (rde (sols P C) 0) k (by omega) with h | ⟨h1, h2⟩
  ·exact .inl h
  ·exact .inr ((h2 r hr).trans h1.symm))
 have O := Big.bind (h := fun k y45 => laws_FnAgesGuessed.j3 k more (sols P C) ((sols P C).length : Int) (sureN (rde (sols P C) 0) (sols P C)) (needN P C (sols P C).length C.length) (leftN P C (C.length + 1)) b (puzText P C) (!y45) P C) (sols_ord (C := C) hp) J
 refine Big.succ ?_
 unfold laws_FnAgesGuessed.l0
 refine Big.neg (by omega) (Big.pos rfl (Big.pos rfl (Big.pos (by omega) (Big.bind (qSame_at _ (by omega)) (Big.pos rfl (Big.neg (ne _) (Big.pos (by rw [hw]; exact f1) (Big.pos (by omega) (Big.pos f2 (Big.pos (by omega) (Big.pos (by omega) (Big.pos f3 ?_))))))))))))
 by_cases h1 : (sols P C).length = 1
 ·obtain ⟨r, hr⟩ := List.length_eq_one_iff.1 h1
  have es : sureN (rde (sols P C) 0) (sols P C) = rde (sols P C) 0 := by
   rw [hr]
   exact sureN_one r
  have hS : Big (fun k => laws_qSame.f k (sureN (rde (sols P C) 0) (sols P C)) (rde (sols P C) 0)) true := by
   rw [es]
   exact qSame_at _ (by omega)
  exact Big.pos (beq_iff_eq.mpr (by omega)) (Big.bind hS (Big.pos rfl (Big.pos (by omega) O)))
 ·exact Big.neg (by rw [beq_eq_false_iff_ne.mpr (show ((sols P C).length : Int) ≠ 1 by omega)]; exact Bool.false_ne_true) (Big.pos (by omega) O)
theorem l0_step {x1 x14 x18 x26 x30 : List Int} {x6 : List (List Int)} {x10 x34 xb5_0 : Int} {x15 x22 : Bool} {x38 : List UInt8} {xb5_1 : (List (Int × Int × Int))} (w i w' i' : Int) (h : i < xb5_0) (hw : IntKind.i64.wrap (w * 12) = w') (hi : IntKind.i64.wrap (i + 1) = i') (N : Big (fun k => laws_FnAgesGuessed.l0 k x1 x6 x10 x14 x15 x18 x22 x26 x30 x34 x38 w' i' xb5_0 xb5_1) true) : Big (fun k => laws_FnAgesGuessed.l0 k x1 x6 x10 x14 x15 x18 x22 x26 x30 x34 x38 w i xb5_0 xb5_1) true := by
 refine Big.succ ?_
 unfold laws_FnAgesGuessed.l0
 refine Big.pos h ?_
 rw [hw, hi]
 exact N
theorem l0_all {x1 x14 x18 x26 x30 : List Int} {x6 : List (List Int)} {x10 x34 xb5_0 : Int} {x15 x22 : Bool} {x38 : List UInt8} {xb5_1 : (List (Int × Int × Int))} (hp : 2 ≤ xb5_0 ∧ xb5_0 ≤ 3) (N : Big (fun k => laws_FnAgesGuessed.l0 k x1 x6 x10 x14 x15 x18 x22 x26 x30 x34 x38 (if xb5_0 = 2 then 144 else 1728) xb5_0 xb5_0 xb5_1) true) : Big (fun k => laws_FnAgesGuessed.l0 k x1 x6 x10 x14 x15 x18 x22 x26 x30 x34 x38 1 0 xb5_0 xb5_1) true := by
 rcases (show xb5_0 = 2 ∨ xb5_0 = 3 by omega) with rfl | rfl
 ·exact l0_step 1 0 12 1 (by omega) rfl rfl (l0_step 12 1 144 2 (by omega) rfl rfl N)
 ·exact l0_step 1 0 12 1 (by omega) rfl rfl (l0_step 12 1 144 2 (by omega) rfl rfl (l0_step 144 2 1728 3 (by omega) rfl rfl N))
end Go.Proofs.YtecdijlfnnminaaGreatDoor.Q
set_option linter.all false
namespace Go.Proofs.YtecdijlfnnminaaGreatDoor.Q
open Go.RowKit Go Go.Proofs.YtecdijlfnnminaaGreatDoor.Eng Go.Proofs.YtecdijlfnnminaaGreatDoor Go.Proofs.YtecdijlfnnminaaGreatDoor.Y
set_option linter.unusedSimpArgs false
set_option linter.unusedVariables false

theorem m9_ok {x1 x14 x18 x26 x30 : List Int} {x6 : List (List Int)} {x7 x15 x22 : Bool} {x10 x34 xb5_0 : Int} {x38 : List UInt8} {xb5_1 : (List (Int × Int × Int))} (N : Big (fun k => laws_FnAgesGuessed.j2 k x1 x6 x7 x10 x14 x15 x18 x22 x26 x30 x34 x38 false xb5_0 xb5_1) true) : Big (fun k => laws_FnAgesGuessed.m9 k x1 x6 x7 x10 x14 x15 x18 x22 x26 x30 x7 x34 (x7 && decide ((xb5_1.length : Int) > 0)) x38 x7 xb5_0 xb5_1) true := by
 refine Big.succ ?_
 unfold laws_FnAgesGuessed.m9
 refine Big.neg (ne _) ?_
 cases x7
 ·exact Big.neg Bool.false_ne_true (Big.neg (by simp) N)
 ·exact Big.pos rfl (Big.neg (by simp) N)
theorem m8_ok {x1 x14 x18 x26 x30 : List Int} {x6 : List (List Int)} {x7 x22 : Bool} {x10 x34 xb5_0 : Int} {x38 : List UInt8} {xb5_1 : (List (Int × Int × Int))} (N : Big (fun k => laws_FnAgesGuessed.j2 k x1 x6 x7 x10 x14 (x7 && decide (x10 > 0)) x18 x22 x26 x30 x34 x38 false xb5_0 xb5_1) true) : Big (fun k => laws_FnAgesGuessed.m8 k x1 x6 x7 x10 x7 x14 (x7 && decide (x10 > 0)) x18 (x7 && decide (x10 > 0)) x22 x7 x26 x7 x30 x7 x34 (x7 && decide ((xb5_1.length : Int) > 0)) x38 x7 xb5_0 xb5_1) true := by
 refine Big.succ ?_
 unfold laws_FnAgesGuessed.m8
 refine Big.neg (ne _) ?_
 cases x7
 ·exact Big.neg Bool.false_ne_true (Big.neg (by simp) (Big.neg (ne _) (Big.neg (ne _) (Big.neg (ne _) (m9_ok N)))))
 ·exact Big.pos rfl (Big.neg (by simp) (Big.neg (ne _) (Big.neg (ne _) (Big.neg (ne _) (m9_ok N)))))
theorem m7_ok {x1 x14 x18 x26 x30 : List Int} {x6 : List (List Int)} {x7 x11 x15 x19 x22 x23 x27 x31 x35 x39 : Bool} {x10 x34 xb5_0 : Int} {x38 : List UInt8} {xb5_1 : (List (Int × Int × Int))} (hx : puz xb5_0 xb5_1 = x7) (N : Big (fun k => laws_FnAgesGuessed.m8 k x1 x6 x7 x10 x11 x14 x15 x18 x19 x22 x23 x26 x27 x30 x31 x34 x35 x38 x39 xb5_0 xb5_1) true) : Big (fun k => laws_FnAgesGuessed.m7 k x1 x6 x7 x10 x11 x14 x15 x18 x19 x22 x23 x26 x27 x30 x31 x34 x35 x34 x38 x39 x38 x39 xb5_0 xb5_1) true := by
 have hI := IsPuzzle_at xb5_0 xb5_1
 have hS : Big (fun k => spec_IsPuzzle.f k (xb5_0, xb5_1)) x7 := by
  unfold spec_IsPuzzle.f
  rw [← hx]
  exact Big.bind (pzGood_at xb5_0 xb5_1) (Big.some_ _)
 rw [hx] at hI
 refine Big.succ ?_
 unfold laws_FnAgesGuessed.m7
 exact Big.pos rfl (Big.neg (ne _) (Big.neg (by simp) (Big.bind hI (Big.neg (ne _) (Big.bind hI (Big.bind hS (Big.neg (ne _) N)))))))
theorem m6_ok {x1 x14 x18 x26 x30 : List Int} {x6 : List (List Int)} {x7 x11 x15 x19 x22 x23 x27 x31 x35 x39 x41 : Bool} {x10 x34 x36 xb5_0 : Int} {x38 x40 : List UInt8} {xb5_1 : (List (Int × Int × Int))} (h26 : x26.length ≤ 2000000) (h30 : x30.length ≤ 2000000) (N : Big (fun k => laws_FnAgesGuessed.m7 k x1 x6 x7 x10 x11 x14 x15 x18 x19 x22 x23 x26 x27 x30 x31 x34 x35 x36 x38 x39 x40 x41 xb5_0 xb5_1) true) : Big (fun k => laws_FnAgesGuessed.m6 k x1 x6 x7 x10 x11 x14 x15 x18 x19 x22 x23 x26 x27 x26 x27 x30 x31 x30 x31 x34 x35 x36 x35 x38 x39 x40 x41 xb5_0 xb5_1) true := by
 refine Big.succ ?_
 unfold laws_FnAgesGuessed.m6
 exact Big.neg (ne _) (Big.bind (qSame_at _ h26) (Big.pos rfl (Big.neg (ne _) (Big.bind (qSame_at _ h30) (Big.pos rfl (Big.neg (ne _) N))))))
theorem m5_ok {x1 x14 x18 x26 x28 x30 x32 : List Int} {x6 : List (List Int)} {x7 x11 x15 x19 x22 x23 x27 x29 x31 x33 x35 x37 x39 x41 : Bool} {x10 x34 x36 xb5_0 : Int} {x38 x40 : List UInt8} {xb5_1 : (List (Int × Int × Int))} (h14 : x14.length ≤ 2000000) (h18 : x18.length ≤ 2000000) (N : Big (fun k => laws_FnAgesGuessed.m6 k x1 x6 x7 x10 x11 x14 x15 x18 x19 x22 x23 x26 x27 x28 x29 x30 x31 x32 x33 x34 x35 x36 x37 x38 x39 x40 x41 xb5_0 xb5_1) true) : Big (fun k => laws_FnAgesGuessed.m5 k x1 x6 x7 x10 x11 x14 x15 x14 x18 x19 x18 x19 x22 x23 x22 x23 x26 x27 x28 x29 x30 x31 x32 x33 x34 x35 x36 x37 x38 x39 x40 x41 xb5_0 xb5_1) true := by
 refine Big.succ ?_
 unfold laws_FnAgesGuessed.m5
 exact Big.bind (qSame_at _ h14) (Big.pos rfl (Big.neg (ne _) (Big.bind (qSame_at _ h18) (Big.pos rfl (Big.neg (ne _) (Big.neg (ne _) N))))))
theorem j1_ok {x1 x14 x16 x18 x20 x26 x28 x30 x32 : List Int} {x6 : List (List Int)} {x7 x11 x15 x19 x21 x22 x23 x24 x25 x27 x29 x31 x33 x35 x37 x39 x41 : Bool} {x10 x34 x36 xb5_0 : Int} {x38 x40 : List UInt8} {xb5_1 : (List (Int × Int × Int))} (h6 : x6.length ≤ 2000000) (h6r : ∀ r ∈ x6, r.length ≤ 2000000) (N : Big (fun k => laws_FnAgesGuessed.m5 k x1 x6 x7 x10 x11 x14 x15 x16 x18 x19 x20 x21 x22 x23 x24 x25 x26 x27 x28 x29 x30 x31 x32 x33 x34 x35 x36 x37 x38 x39 x40 x41 xb5_0 xb5_1) true) : Big (fun k => laws_FnAgesGuessed.j1 k x1 x6 x7 x6 x7 x10 x11 x10 x11 x14 x15 x16 x15 x18 x19 x20 x21 x22 x23 x24 x25 x26 x27 x28 x29 x30 x31 x32 x33 x34 x35 x36 x37 x38 x39 x40 x41 xb5_0 xb5_1) true := by
 refine Big.succ ?_
 unfold laws_FnAgesGuessed.j1
 exact Big.neg (ne _) (Big.bind (qRows_at _ h6 h6r) (Big.pos rfl (Big.neg (ne _) (Big.pos rfl (Big.neg (ne _) N)))))
/-- All answers beside each other. -/
theorem same_ok {x1 : List Int} {S : List (List Int)} {g : Bool} {m : Int} {F U D L : List Int} {u : Bool} {b : Int} {t : List UInt8} {P : Int} {C : List (Int × Int × Int)} (hx : puz P C = g) (h6 : S.length ≤ 2000000) (h6r : ∀ r ∈ S, r.length ≤ 2000000) (hF : F.length ≤ 2000000) (hU : U.length ≤ 2000000) (hD : D.length ≤ 2000000) (hL : L.length ≤ 2000000)
  (N : Big (fun k => laws_FnAgesGuessed.j2 k x1 S g m F (g && decide (m > 0)) U u D L b t false P C) true) :
  Big (fun k => laws_FnAgesGuessed.j1 k x1 S g S g m g m g F (g && decide (m > 0)) F (g && decide (m > 0)) U (g && decide (m > 0)) U (g && decide (m > 0)) u g u g D g D g L g L g b (g && decide ((C.length : Int) > 0)) b (g && decide ((C.length : Int) > 0)) t g t g P C) true :=
 j1_ok h6 h6r (m5_ok hF hU (m6_ok hD hL (m7_ok hx (m8_ok N))))
theorem j2_ok {more : List Int} (hc : Byt more) {P : Int} {C : List (Int × Int × Int)} {b : Int} (hb : puz P C = true → (C.length : Int) > 0 → 0 ≤ b ∧ b < (C.length : Int)) :
  Big (fun k => laws_FnAgesGuessed.j2 k more (if puz P C = true then sols P C else []) (puz P C) (if puz P C = true then ((sols P C).length : Int) else 0) (firstR P C).1 (firstR P C).2 (sureRes P C).1 (if puz P C = true then (((sols P C).length : Int) == 1) else false) (needR P C).1 (leftR P C).1 b (if puz P C = true then puzText P C else []) false P C) true := by
 refine Big.succ ?_
 unfold laws_FnAgesGuessed.j2
 refine Big.neg Bool.false_ne_true ?_
 cases hg : puz P C
 ·exact Big.neg Bool.false_ne_true (j6_ok hc)
 ·refine Big.pos rfl ?_
  obtain ⟨hp, hl, hgd⟩ := puz_good hg
  by_cases h0 : (sols P C).length = 0
  ·have e1 : some1 P C = false := by unfold some1; rw [hg, h0]; rfl
   simp only [firstR, sureRes, needR, leftR, hg, e1, if_true, Bool.false_eq_true, if_false]
   exact l0_all hp (l0_none hc hg b (hb hg) h0)
  ·have e1 : some1 P C = true := by unfold some1; rw [hg, beq_eq_false_iff_ne.mpr h0]; rfl
   simp only [firstR, sureRes, needR, leftR, hg, e1, if_true]
   exact l0_all hp (l0_some hc hg b (hb hg) h0)
theorem j0_ok {more : List Int} (hc : Byt more) {P : Int} {C : List (Int × Int × Int)} (hC : C.length ≤ 7) :
  Big (fun k => laws_FnAgesGuessed.j0 k more (if puz P C = true then sols P C else []) (puz P C) (if puz P C = true then sols P C else []) (puz P C) (if puz P C = true then ((sols P C).length : Int) else 0) (puz P C) (if puz P C = true then ((sols P C).length : Int) else 0) (puz P C) (firstR P C).1 (firstR P C).2 (firstR P C).1 (firstR P C).2 (sureRes P C).1 (sureRes P C).2 (sureRes P C).1 (sureRes P C).2 P C) true := by
 obtain ⟨n1, n2⟩ := Need_at P C
 obtain ⟨l1, l2⟩ := Left_at P C
 obtain ⟨b, ok, b1, b2, hok, hbr⟩ := Best_at P C
 have s1 := iSolved_at P C
 have s2 := Solved_s P C
 have t1 := PuzzleText_i P C
 have t2 := PuzzleText_s P C
 have e35 : ok = (puz P C && decide ((C.length : Int) > 0)) := by
  rw [hok]
  cases puz P C
  ·rfl
  ·by_cases h : C.length = 0
   ·rw [h]; rfl
   ·rw [beq_eq_false_iff_ne.mpr h, decide_eq_true (show (C.length : Int) > 0 by omega)]; rfl
 have hb : puz P C = true → (C.length : Int) > 0 → 0 ≤ b ∧ b < (C.length : Int) := fun h1 h2 => hbr (by rw [e35, h1, decide_eq_true h2]; rfl)
 have J := j2_ok hc hb
 refine Big.succ ?_
 unfold laws_FnAgesGuessed.j0
 refine Big.bind s1 (Big.bind s2 (Big.bind n2 (Big.bind n1 (Big.bind l2 (Big.bind l1 (Big.bind b2 (Big.bind b1 (Big.bind t1 (Big.bind t2 ?_)))))))))
 cases hg : puz P C
 ·have e1 : some1 P C = false := by unfold some1; rw [hg]; rfl
  rw [hg, Bool.false_and] at e35
  simp only [firstR, sureRes, needR, leftR, hg, e1, e35, Bool.false_eq_true, if_false] at J ⊢
  exact same_ok (m := 0) hg (by simp) (fun r hr => by cases hr) (by simp) (by simp) (by simp) (by simp) J
 ·obtain ⟨hp, hl, hgd⟩ := puz_good hg
  have hn := sols_length P hp C
  have hrow : ∀ r ∈ sols P C, r.length ≤ 2000000 := fun r hr => by have := (sols_row P hp C r hr).1; omega
  have hD := needN_len P C (sols P C).length C.length
  have hL := leftN_len P C (C.length + 1)
  rw [hg, Bool.true_and] at e35
  by_cases h0 : (sols P C).length = 0
  ·have e1 : some1 P C = false := by unfold some1; rw [hg, h0]; rfl
   have ed : decide (((sols P C).length : Int) > 0) = false := decide_eq_false (by omega)
   simp only [firstR, sureRes, needR, leftR, hg, e1, e35, if_true, Bool.false_eq_true, if_false] at J ⊢
   have Z := same_ok (m := ((sols P C).length : Int)) (x1 := more) (S := sols P C) (F := []) (U := []) (D := needN P C (sols P C).length C.length) (L := leftN P C (C.length + 1)) (u := (((sols P C).length : Int) == 1)) (b := b) (t := puzText P C) hg (by omega) hrow (by simp) (by simp) (by omega) (by omega)
   simp only [ed, Bool.true_and] at Z
   exact Z J
  ·have e1 : some1 P C = true := by unfold some1; rw [hg, beq_eq_false_iff_ne.mpr h0]; rfl
   have ed : decide (((sols P C).length : Int) > 0) = true := decide_eq_true (by omega)
   have hF := hrow (rde (sols P C) 0) (by rw [show rde (sols P C) 0 = (sols P C)[0]'(by omega) from rde_nat _ 0 (by omega)]; exact List.getElem_mem _)
   simp only [firstR, sureRes, needR, leftR, hg, e1, e35, if_true] at J ⊢
   have Z := same_ok (m := ((sols P C).length : Int)) (x1 := more) (S := sols P C) (F := rde (sols P C) 0) (U := sureN (rde (sols P C) 0) (sols P C)) (D := needN P C (sols P C).length C.length) (L := leftN P C (C.length + 1)) (u := (((sols P C).length : Int) == 1)) (b := b) (t := puzText P C) hg (by omega) hrow hF (by rw [sureN_length]; exact hF) (by omega) (by omega)
   simp only [ed, Bool.true_and] at Z
   exact Z J
theorem top (code more : List Int) (hb1 : ∀ x ∈ code, 0 ≤ x ∧ x ≤ 255) (hb2 : ∀ x ∈ more, 0 ≤ x ∧ x ≤ 255) : Big (fun k => laws_FnAgesGuessed.f k code more) true := by
 unfold laws_FnAgesGuessed.f
 by_cases hbig : code.length ≤ 1048576 ∧ more.length ≤ 1048576 - code.length
 ·have e : laws_big.f code more = some false := by
   unfold laws_big.f
   rw [if_neg (by omega), w64 (i := 1048576 - (code.length : Int)) (by omega) (by omega), decide_eq_false (by omega)]
  have hc : Byt code := ⟨hb1, by omega⟩
  have hc2 : Byt more := ⟨hb2, by omega⟩
  obtain ⟨P, C, hC, hD⟩ := drawSols hc
  have a1 := Solutions_at P C
  have a2 := Solutions_s P C
  have c1 := iCount_at P C
  have c2 := Count_s P C
  obtain ⟨f2, f1⟩ := First_at P C
  obtain ⟨u2, u1⟩ := Sure_at P C
  have J := j0_ok hc2 (P := P) hC
  refine Big.bind (Big.of e) (Big.neg Bool.false_ne_true (Big.bind hD (Big.bind a1 (Big.bind a2 (Big.bind c1 (Big.bind c2 (Big.bind f1 (Big.bind f2 (Big.bind u1 (Big.bind u2 ?_))))))))))
  cases hg : puz P C
  ·simp only [hg, Bool.false_eq_true, if_false] at J ⊢
   exact J
  ·simp only [hg, if_true] at J ⊢
   exact J
 ·have e : laws_big.f code more = some true := by
   unfold laws_big.f
   by_cases hb : (code.length : Int) > 1048576
   ·rw [if_pos hb]
   ·rw [if_neg hb, w64 (i := 1048576 - (code.length : Int)) (by omega) (by omega), decide_eq_true (by omega)]
  exact Big.bind (Big.of e) (Big.pos rfl (Big.some_ _))
end Go.Proofs.YtecdijlfnnminaaGreatDoor.Q
set_option linter.all false
namespace Go.Proofs.YtecdijlfnnminaaGreatDoor.Pure
open Go.RowKit Go.Proofs.YtecdijlfnnminaaGreatDoor.Q Go Go.Proofs.YtecdijlfnnminaaGreatDoor.Eng Go.Proofs.YtecdijlfnnminaaGreatDoor Go.Proofs.YtecdijlfnnminaaGreatDoor.Y

theorem FnAgesGuessed (code more : List Int) (hb1 : ∀ x ∈ code, 0 ≤ x ∧ x ≤ 255) (hb2 : ∀ x ∈ more, 0 ≤ x ∧ x ≤ 255) : S.laws_FnAgesGuessed.f code more = some true := by
 obtain ⟨k, hk⟩ := (top code more hb1 hb2).exists_
 exact laws_FnAgesGuessed.f.br k code more _ hk
end Go.Proofs.YtecdijlfnnminaaGreatDoor.Pure
