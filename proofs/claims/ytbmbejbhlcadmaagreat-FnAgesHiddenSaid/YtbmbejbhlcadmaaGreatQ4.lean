/- The law on hidden ages, over the plain functions, read from its end to its start. Conditions: as typed. -/
import Derived.Test.YtbmbejbhlcadmaaGreatQ3
import Derived.Test.YtbmbejbhlcadmaaGreatQ2
import Derived.Test.YtbmbejbhlcadmaaGreatR0
set_option linter.all false
namespace Go.Proofs.YtbmbejbhlcadmaaGreat.Q
open Go.RowKit Go Go.Proofs.YtbmbejbhlcadmaaGreat.Eng Go.Proofs.YtbmbejbhlcadmaaGreat Go.Proofs.YtbmbejbhlcadmaaGreat.Y
set_option linter.unusedSimpArgs false
set_option linter.unusedVariables false

theorem IsClue_both (n : Int) (c : Int × Int × Int) : ∃ b, Big (fun k => impl_IsClue.f k n c) b ∧ Big (fun k => spec_IsClue.f k n c) b := by
  obtain ⟨K, A, B⟩ := c
  refine ⟨inR n 2 3 && clueB n K A B, IsClue_at n K A B, ?_⟩
  unfold spec_IsClue.f
  rw [v_pzPeople]
  cases h : inR n 2 3
  · exact Big.bind (Big.some_ _) (Big.neg Bool.false_ne_true (Big.some_ _))
  · refine Big.bind (Big.some_ _) (Big.pos rfl ?_)
    exact Big.bind (pzClue_at n K A B (inR_iff.mp h)) (Big.some_ _)
theorem DoesFit_all (c : Int × Int × Int) (l : List Int) (hl : l.length ≤ 1048576) : ∃ f e, Big (fun k => spec_DoesFit.f k c l) (f, e) ∧ Big (fun k => impl_DoesFit.f k c l) (f, e) ∧ (e = true → Big (fun k => impl_IsClue.f k (l.length : Int) c) true) := by
  obtain ⟨K, A, B⟩ := c
  unfold spec_DoesFit.f impl_DoesFit.f
  have hH := pzHidden_at l hl
  rw [v_areHidden l hl]
  cases h1 : hid l with
  | false =>
    rw [h1] at hH
    exact ⟨false, false, Big.bind hH (Big.neg Bool.false_ne_true (Big.some_ _)), Big.bind (Big.some_ _) (Big.neg Bool.false_ne_true (Big.some_ _)), fun h => by cases h⟩
  | true =>
    rw [h1] at hH
    have hp := (hid_iff.mp h1).1
    have hI := IsClue_at (l.length : Int) K A B
    rw [inR_iff.mpr (show 2 ≤ (l.length : Int) ∧ (l.length : Int) ≤ 3 by omega), Bool.true_and] at hI
    have hS := pzClue_at (l.length : Int) K A B (by omega)
    cases h2 : clueB (l.length : Int) K A B with
    | false =>
      rw [h2] at hI hS
      exact ⟨false, false, Big.bind hH (Big.pos rfl (Big.bind hS (Big.neg Bool.false_ne_true (Big.some_ _)))), Big.bind (Big.some_ _) (Big.pos rfl (Big.bind hI (Big.neg Bool.false_ne_true (Big.some_ _)))), fun h => by cases h⟩
    | true =>
      rw [h2] at hI hS
      exact ⟨fitN K A B l, true, Big.bind hH (Big.pos rfl (Big.bind hS (Big.pos rfl (Big.bind (pzFits_at K A B l h1 h2) (Big.some_ _))))), Big.bind (Big.some_ _) (Big.pos rfl (Big.bind hI (Big.pos rfl (Big.bind (fits_at K A B l h1 h2) (Big.some_ _))))), fun _ => hI⟩
/-! ### clues taken out and put in again -/
theorem p13 (n : Int) (t : Bool) (P : Int) (C : List (Int × Int × Int)) (P2 : Int) (C2 : List (Int × Int × Int)) (hC : C.length ≤ 2000) (h : t = true → dropOk P C n = true ∧ n = (C.length : Int) - 1 ∧ P2 = P ∧ C2 = C.eraseIdx n.toNat) : Big (fun k => laws_FnAgesHidden.j13 k n t P C P2 C2) true := by
  refine Big.succ ?_
  unfold laws_FnAgesHidden.j13
  cases t
  · exact Big.neg Bool.false_ne_true (Big.some_ _)
  · obtain ⟨h1, h2, rfl, rfl⟩ := h rfl
    obtain ⟨hlt, h0, ha⟩ := add_drop h1 h2
    have er : rde C n = C[n.toNat] := by
      have := rde_nat C n.toNat hlt
      rwa [Int.toNat_of_nonneg h0] at this
    dsimp only
    rw [er]
    have hA := (AddClue_at P2 (C.eraseIdx n.toNat) C[n.toNat]).2
    rw [ha] at hA
    refine Big.pos rfl (Big.pos h0 (Big.pos (by omega) (Big.bind hA (Big.pos rfl (Big.bind (qPuzzle_self P2 C (by omega)) (Big.some_ _))))))
theorem p12 (n : Int) (P : Int) (C : List (Int × Int × Int)) (hC : C.length ≤ 2000) : Big (fun k => laws_FnAgesHidden.j12 k n (dropR P C n).2 P C (dropR P C n).1.1 (dropR P C n).1.2) true := by
  refine Big.succ ?_
  unfold laws_FnAgesHidden.j12 dropR
  cases h : dropOk P C n
  · simp only [Bool.false_eq_true, if_false]
    exact p13 n false P C 0 [] hC (fun h => by cases h)
  · simp only [if_true]
    rw [w64 (i := (C.length : Int) - 1) (by omega) (by omega)]
    exact p13 n _ P C P _ hC (fun ht => ⟨h, beq_iff_eq.mp ht, rfl, rfl⟩)
theorem p11 (n : Int) (P : Int) (C : List (Int × Int × Int)) (hC : C.length ≤ 2000) (R : Int) (D : List (Int × Int × Int)) (hD : D.length ≤ 2000) (K A B : Int) : Big (fun k => laws_FnAgesHidden.j11 k n (dropR P C n).2 true R D K A B R (D ++ [(K, A, B)]) P C (dropR P C n).1.1 (dropR P C n).1.2 R D) true := by
  refine Big.succ ?_
  unfold laws_FnAgesHidden.j11
  have er : rde (D ++ [(K, A, B)]) (D.length : Int) = (K, A, B) := by
    rw [rde_nat _ _ (by rw [List.length_append, List.length_singleton]; omega)]
    simp
  dsimp only
  rw [er]
  exact Big.pos rfl (Big.bind (qPuzzle_self R D (by omega)) (Big.pos rfl (Big.pos (by omega) (Big.pos (by rw [List.length_append, List.length_singleton]; omega) (Big.pos (by simp) (p12 n P C hC))))))
theorem p10 (n : Int) (P : Int) (C : List (Int × Int × Int)) (hC : C.length ≤ 2000) (R : Int) (D : List (Int × Int × Int)) (hD : D.length ≤ 2000) (K A B : Int) : Big (fun k => laws_FnAgesHidden.j10 k (addR R D (K, A, B)).2 n (dropR P C n).2 false R D K A B (addR R D (K, A, B)).1.1 (addR R D (K, A, B)).1.2 P C (dropR P C n).1.1 (dropR P C n).1.2) true := by
  refine Big.succ ?_
  unfold laws_FnAgesHidden.j10
  refine Big.neg Bool.false_ne_true ?_
  cases h : addOk R D (K, A, B)
  · have e : addR R D (K, A, B) = ((0, []), false) := by unfold addR; rw [h]; rfl
    rw [e]
    exact Big.neg Bool.false_ne_true (p12 n P C hC)
  · have e : addR R D (K, A, B) = ((R, D ++ [(K, A, B)]), true) := by unfold addR; rw [h]; rfl
    rw [e]
    have hB := (DropClue_at R (D ++ [(K, A, B)]) (D.length : Int)).2
    rw [drop_add h] at hB
    exact Big.pos rfl (Big.bind hB (p11 n P C hC R D hD K A B))
theorem addR_len {R : Int} {D : List (Int × Int × Int)} {c : Int × Int × Int} (hD : D.length ≤ 2000) : (addR R D c).1.2.length ≤ 2001 := by
  unfold addR
  split
  · show (D ++ [c]).length ≤ 2001
    rw [List.length_append, List.length_singleton]; omega
  · simp
theorem dropR_len {R : Int} {D : List (Int × Int × Int)} {n : Int} (hD : D.length ≤ 2000) : (dropR R D n).1.2.length ≤ 2001 := by
  unfold dropR
  split
  · have := List.length_eraseIdx_le D n.toNat
    show (D.eraseIdx n.toNat).length ≤ 2001
    omega
  · simp
theorem p9 (n : Int) (P : Int) (C : List (Int × Int × Int)) (hC : C.length ≤ 2000) (R : Int) (D : List (Int × Int × Int)) (hD : D.length ≤ 2000) (K A B : Int) (L : List Int) (f e : Bool) (d0 d1 d2 m c0 c1 c2 : Int) (he : e = true → Big (fun k => impl_IsClue.f k (L.length : Int) (d0, d1, d2)) true) :
    Big (fun k => laws_FnAgesHidden.j9 k (addR R D (K, A, B)).2 (addR R D (K, A, B)).2 n (dropR P C n).2 (dropR P C n).2 L f e f e m R D K A B (addR R D (K, A, B)).1.1 (addR R D (K, A, B)).1.2 (addR R D (K, A, B)).1.1 (addR R D (K, A, B)).1.2 P C (dropR P C n).1.1 (dropR P C n).1.2 (dropR P C n).1.1 (dropR P C n).1.2 d0 d1 d2 c0 c1 c2) true := by
  obtain ⟨b, hb1, hb2⟩ := IsClue_both m (c0, c1, c2)
  have q1 := qPuzzle_self (addR R D (K, A, B)).1.1 (addR R D (K, A, B)).1.2 (by have := addR_len (R := R) (c := (K, A, B)) hD; omega)
  have q2 := qPuzzle_self (dropR P C n).1.1 (dropR P C n).1.2 (by have := dropR_len (R := P) (n := n) hC; omega)
  have ne : ∀ x : Bool, ¬ (x != x) = true := fun x => by cases x <;> decide
  refine Big.succ ?_
  unfold laws_FnAgesHidden.j9
  refine Big.neg (ne _) (Big.bind q1 (Big.pos rfl (Big.neg (ne _) (Big.bind q2 (Big.pos rfl (Big.neg (ne _) (Big.neg (ne _) (Big.bind hb1 (Big.bind hb2 (Big.neg (ne _) ?_))))))))))
  cases e
  · exact Big.neg Bool.false_ne_true (p10 n P C hC R D hD K A B)
  · exact Big.pos rfl (Big.bind (he rfl) (p10 n P C hC R D hD K A B))
theorem p7 {code : List Int} (hc : Byt code) : Big (fun k => laws_FnAgesHidden.j7 k code) true := by
  obtain ⟨R, D, ⟨K, A, B⟩, hD, h1⟩ := drawAddClue hc
  obtain ⟨P, C, n, hC, h2⟩ := drawDropClue hc
  obtain ⟨⟨d0, d1, d2⟩, L, hL, h3⟩ := drawDoesFit hc
  obtain ⟨m, ⟨c0, c1, c2⟩, h4⟩ := drawIsClue hc
  obtain ⟨f, e, g1, g2, g3⟩ := DoesFit_all (d0, d1, d2) L (by omega)
  have a := AddClue_at R D (K, A, B)
  have d := DropClue_at P C n
  refine Big.succ ?_
  unfold laws_FnAgesHidden.j7
  refine Big.bind h1 (Big.bind a.2 (Big.bind a.1 (Big.bind h2 (Big.bind d.2 (Big.bind d.1 (Big.bind h3 (Big.bind g2 (Big.bind g1 (Big.succ ?_)))))))))
  unfold laws_FnAgesHidden.j8
  exact Big.bind h4 (p9 n P C (by omega) R D (by omega) K A B L f e d0 d1 d2 m c0 c1 c2 g3)
/-! ### harder puzzles -/
theorem p6 {code : List Int} (hc : Byt code) (p : Int) (cl C : List (Int × Int × Int)) (h1 : puz p cl = true) (h3 : C.length ≤ cl.length) (h4 : sols p C = sols p cl) : Big (fun k => laws_FnAgesHidden.j6 k code (sols p cl) true (sols p C) true [] true p cl p C) true := by
  obtain ⟨hp, hl, hg⟩ := puz_good h1
  refine Big.succ ?_
  unfold laws_FnAgesHidden.j6
  rw [h4]
  exact Big.pos rfl (Big.pos rfl (Big.bind (qRows_at _ (by have := sols_length p hp cl; omega) (fun r hr => by have := (sols_row p hp cl r hr).1; omega)) (Big.pos rfl (Big.pos rfl (Big.pos rfl (Big.neg (by omega) (p7 hc)))))))
theorem p5 {code : List Int} (hc : Byt code) (p : Int) (cl : List (Int × Int × Int)) (H : Int) (C : List (Int × Int × Int)) (ok : Bool) (h : ok = true → puz p cl = true ∧ H = p ∧ puz p C = true ∧ C.length ≤ cl.length ∧ sols p C = sols p cl ∧ hardy p C C.length) : Big (fun k => laws_FnAgesHidden.j5 k code ok false p cl H C) true := by
  refine Big.succ ?_
  unfold laws_FnAgesHidden.j5
  refine Big.neg Bool.false_ne_true ?_
  cases ok
  · exact Big.neg Bool.false_ne_true (p7 hc)
  · obtain ⟨h1, rfl, h2, h3, h4, h5⟩ := h rfl
    have a := Solutions2_at H cl
    rw [h1] at a
    have b := Solutions2_at H C
    rw [h2] at b
    simp only [if_true] at a b
    exact Big.pos rfl (Big.bind a (Big.bind b (Big.bind (Needless_none H C h2 h5) (p6 hc H cl C h1 h3 h4))))
theorem p3 {code : List Int} (hc : Byt code) : Big (fun k => laws_FnAgesHidden.j3 k code) true := by
  obtain ⟨p, cl, hl, h1⟩ := drawHarder hc
  obtain ⟨H, C, ok, s, t, a, b, c, hok, hC, h⟩ := Harder_all p cl
  have ne : ∀ x : Bool, ¬ (x != x) = true := fun x => by cases x <;> decide
  refine Big.succ ?_
  unfold laws_FnAgesHidden.j3
  refine Big.bind h1 (Big.bind b (Big.bind a (Big.bind c (Big.succ ?_))))
  unfold laws_FnAgesHidden.j4
  refine Big.neg (ne _) (Big.bind (qPuzzle_self H C (by omega)) (Big.pos rfl ?_))
  cases t
  · have hf : (ok != false) = false := by rw [hok]; rfl
    rw [hf]
    exact Big.neg Bool.false_ne_true (p5 hc p cl H C ok h)
  · have hf : (ok != s) = false := by rw [hok]; cases s <;> rfl
    rw [hf]
    exact Big.pos rfl (p5 hc p cl H C ok h)
/-! ### made puzzles -/
theorem pl0 {code : List Int} (hc : Byt code) (l : List Int) (h : hid l = true) (C : List (Int × Int × Int)) (hC : C.length ≤ 6) (hf : ∀ c ∈ C, fitC l c) (d : Nat) : ∀ i : Nat, i + d = C.length → Big (fun k => laws_FnAgesHidden.l0 k code l C (C.length : Int) i) true := by
  induction d with
  | zero =>
    intro i hi
    refine Big.succ ?_
    unfold laws_FnAgesHidden.l0
    exact Big.neg (by omega) (p3 hc)
  | succ d ih =>
    intro i hi
    have hlt : i < C.length := by omega
    obtain ⟨f1, f2⟩ := hf _ (List.getElem_mem hlt)
    have hD := DoesFit_at C[i].1 C[i].2.1 C[i].2.2 l h f1
    rw [f2] at hD
    refine Big.succ ?_
    unfold laws_FnAgesHidden.l0
    rw [w64n (by omega), rdT_nat C i hlt]
    exact Big.pos (by omega) (Big.pos (by omega) (Big.pos (by omega) (Big.bind hD (Big.pos rfl (Big.pos rfl (ih (i + 1) (by omega)))))))
theorem okA_zero (l : List Int) (K : Int) (hl : 2 ≤ l.length) : okA (l.length : Int) K 0 := ⟨by omega, fun _ => by omega, fun _ => by omega⟩
theorem p0 {code : List Int} (hc : Byt code) (l : List Int) (n : Int) (ok : Bool) (P : Int) (C : List (Int × Int × Int)) (hC : C.length ≤ 6) (hok : ok = true → hid l = true ∧ P = (l.length : Int) ∧ (C.length : Int) = n ∧ ∀ c ∈ C, fitC l c) : Big (fun k => laws_FnAgesHidden.j0 k code l n ok false P C) true := by
  refine Big.succ ?_
  unfold laws_FnAgesHidden.j0
  refine Big.neg Bool.false_ne_true ?_
  cases ok
  · exact Big.neg Bool.false_ne_true (p3 hc)
  · obtain ⟨h, rfl, hn, hf⟩ := hok rfl
    have hl := (hid_iff.mp h).1
    obtain ⟨c1, f1⟩ := clue_made h (K := 0) (A := 0) (by omega) (okA_zero l 0 hl.1) (fun _ => rfl)
    obtain ⟨c2, f2⟩ := clue_made h (K := 2) (A := 0) (by omega) (okA_zero l 2 hl.1) (fun _ => rfl)
    obtain ⟨c3, f3⟩ := clue_made h (K := 4) (A := 0) (by omega) (okA_zero l 4 hl.1) (fun _ => rfl)
    have v0 : valN 0 0 l = sumW 0 l := rfl
    have v2 : valN 2 0 l = prodW 1 l := rfl
    have v4 : valN 4 0 l = cntW 0 l := rfl
    rw [v0] at c1 f1
    rw [v2] at c2 f2
    rw [v4] at c3 f3
    have d1 := DoesFit_at 0 0 (sumW 0 l) l h c1
    have d2 := DoesFit_at 2 0 (prodW 1 l) l h c2
    have d3 := DoesFit_at 4 0 (cntW 0 l) l h c3
    have d4 := DoesFit_at 6 0 2 l h (by rfl)
    rw [f1] at d1
    rw [f2] at d2
    rw [f3] at d3
    have hz : fitN 6 0 2 l = (Int.tmod (sumW 0 l) 2 == 0) := by
      have hs := sum_b h
      unfold fitN
      rw [if_pos rfl, Int.zero_mul, show IntKind.i64.wrap 0 = 0 from rfl, Int.add_zero, w64 (by omega) (by omega)]
    rw [hz] at d4
    refine Big.pos rfl (Big.bind (SumIn0 l h) (Big.bind d1 (Big.bind (ProductIn0 l h) (Big.bind d2 (Big.bind (CountOfKind0 l h) (Big.bind d3 (Big.bind d4 (Big.succ ?_))))))))
    unfold laws_FnAgesHidden.j1
    have hp : puz (l.length : Int) C = true := puz_of (by omega) hC (fun c hcm => (hf c hcm).1)
    have hI := IsPuzzle_at (l.length : Int) C
    rw [hp] at hI
    refine Big.bind hI (Big.pos rfl (Big.pos hn (Big.pos rfl (Big.pos rfl (Big.pos rfl (Big.pos rfl (Big.pos rfl (Big.pos rfl (Big.pos rfl (Big.pos rfl (Big.pos rfl (Big.pos rfl ?_))))))))))))
    have hx : ((Int.tmod (sumW 0 l) 2 == 0) != (Int.tmod (sumW 0 l) 2 == 0)) = false := by cases (Int.tmod (sumW 0 l) 2 == 0) <;> rfl
    rw [hx]
    refine Big.succ ?_
    unfold laws_FnAgesHidden.j2
    exact Big.neg Bool.false_ne_true (pl0 hc l h C hC hf C.length 0 (by omega))
theorem top (code more : List Int) (hb1 : ∀ x ∈ code, 0 ≤ x ∧ x ≤ 255) (hb2 : ∀ x ∈ more, 0 ≤ x ∧ x ≤ 255) : Big (fun k => laws_FnAgesHidden.f k code more) true := by
  unfold laws_FnAgesHidden.f
  by_cases hbig : code.length ≤ 1048576 ∧ more.length ≤ 1048576 - code.length
  · have e : laws_big.f code more = some false := by
      unfold laws_big.f
      rw [if_neg (by omega), w64 (i := 1048576 - (code.length : Int)) (by omega) (by omega), decide_eq_false (by omega)]
    have hc : Byt code := ⟨hb1, by omega⟩
    have hc2 : Byt more := ⟨hb2, by omega⟩
    obtain ⟨l, n, s, hl, e2⟩ := drawMake hc
    obtain ⟨P, C, ok, hC, h1, h2, hok⟩ := MakePuzzle_at l n s (by omega)
    have ne : ∀ x : Bool, ¬ (x != x) = true := fun x => by cases x <;> decide
    refine Big.bind (Big.of e) (Big.neg Bool.false_ne_true (Big.bind (Big.of e2) (Big.bind h2 (Big.bind h1 (Big.neg (ne _) (Big.bind (qPuzzle_self P C (by omega)) ?_))))))
    exact p0 hc2 l n ok P C hC hok
  · have e : laws_big.f code more = some true := by
      unfold laws_big.f
      by_cases hb : (code.length : Int) > 1048576
      · rw [if_pos hb]
      · rw [if_neg hb, w64 (i := 1048576 - (code.length : Int)) (by omega) (by omega), decide_eq_true (by omega)]
    exact Big.bind (Big.of e) (Big.pos rfl (Big.some_ _))
end Go.Proofs.YtbmbejbhlcadmaaGreat.Q
set_option linter.all false
namespace Go.Proofs.YtbmbejbhlcadmaaGreat.Pure
open Go.RowKit Go.Proofs.YtbmbejbhlcadmaaGreat.Q Go Go.Proofs.YtbmbejbhlcadmaaGreat.Eng Go.Proofs.YtbmbejbhlcadmaaGreat Go.Proofs.YtbmbejbhlcadmaaGreat.Y

theorem FnAgesHidden (code more : List Int) (hb1 : ∀ x ∈ code, 0 ≤ x ∧ x ≤ 255) (hb2 : ∀ x ∈ more, 0 ≤ x ∧ x ≤ 255) : S.laws_FnAgesHidden.f code more = some true := by
  obtain ⟨k, hk⟩ := (top code more hb1 hb2).exists_
  exact laws_FnAgesHidden.f.br k code more _ hk
end Go.Proofs.YtbmbejbhlcadmaaGreat.Pure
