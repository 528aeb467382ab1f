/- Puzzles, read out of a text: the program and the reference answer alike. Conditions: as typed. -/
import Derived.Test.YtknigfnbhlmlgaaDoorQoReadQ
import Derived.Test.YtknigfnbhlmlgaaDoorQoWordQ
import Derived.Test.YtknigfnbhlmlgaaDoorQoPuzT
import Derived.Test.YtknigfnbhlmlgaaDoorO0
import Derived.Test.YtknigfnbhlmlgaaDoorO10
import Derived.Test.YtknigfnbhlmlgaaDoorO11
import Derived.Test.YtknigfnbhlmlgaaDoorO12
import Derived.Test.YtknigfnbhlmlgaaDoorO3
import Derived.Test.YtknigfnbhlmlgaaDoorO5
import Derived.Test.YtknigfnbhlmlgaaDoorO7
import Derived.Test.YtknigfnbhlmlgaaDoorO8
namespace Go.Proofs.YtknigfnbhlmlgaaDoor.Q
open Go.RowKit Go.Proofs.YtknigfnbhlmlgaaDoor.O Go.Proofs.YtknigfnbhlmlgaaDoorW.PrintWords Go.Proofs.YtknigfnbhlmlgaaDoorW.PrintLast
set_option linter.unusedSimpArgs false

theorem cut_hit {c : UInt8} (u v : List UInt8) (h : c ∉ u) : Go.Lib.cut (u ++ c :: v) [c] = (u, v, true) := by
  rcases index_one c (u ++ c :: v) with ⟨h1, _⟩ | ⟨u', v', h1, h2, h3⟩
  · exact absurd (List.mem_append_right u List.mem_cons_self) h1
  · have e : sp c (u ++ c :: v) = sp c (u' ++ c :: v') := by rw [h1]
    rw [sp_hit v h, sp_hit v' h2] at e
    injection e with e1 _
    subst e1
    unfold Go.Lib.cut
    rw [h3, if_pos (by omega), Int.toNat_natCast, List.take_left' rfl, List.length_singleton]
    have e2 : (u ++ c :: v).drop (u.length + 1) = v := by
      rw [List.drop_append, List.drop_eq_nil_of_le (by omega)]
      simp
    rw [e2]
theorem cut_len (s sep : List UInt8) : (Go.Lib.cut s sep).1.length ≤ s.length ∧ (Go.Lib.cut s sep).2.1.length ≤ s.length := by
  unfold Go.Lib.cut
  split
  · simp only [List.length_take, List.length_drop]
    omega
  · simp
theorem one_dig (x : Int) (h : 0 ≤ x ∧ x ≤ 9) : (Go.Lib.itoa x).length = 1 := by
  obtain ⟨n, rfl⟩ : ∃ n : Nat, x = (n : Int) := ⟨x.toNat, by omega⟩
  unfold Go.Lib.itoa
  rw [if_neg (by omega), Int.toNat_natCast, Go.Lib.decDigits_one (by omega)]
  rfl
theorem cL_len8 {c : S80} (h : clueSmall c) : (cL c).length ≤ 8 := by
  obtain ⟨a, b, d⟩ := h
  have h0 := one_dig c.f0 (by omega)
  have h1 := one_dig c.f1 (by omega)
  have h2 := (num_at c.f2 (by omega)).2
  unfold cL
  simp only [List.length_append, List.length_singleton]
  omega
theorem cL_ne (c : S80) : cL c ≠ [] := by
  unfold cL
  simp
theorem cL_sp {c : S80} (h : clueSmall c) : sp 46 (cL c) = [c.f0, c.f1, c.f2].map Go.Lib.itoa := by
  obtain ⟨a, b, d⟩ := h
  rw [← clue3]
  refine sp_join 46 _ (by simp) (fun w hw => ?_)
  obtain ⟨x, hx, rfl⟩ := List.mem_map.1 hw
  simp only [List.mem_cons, List.mem_nil_iff, or_false] at hx
  exact no_comma x (by rcases hx with rfl | rfl | rfl <;> omega) 46 (.inl (by decide))
theorem cL_no {c : S80} (h : clueSmall c) (b : UInt8) (hb : b.toNat < 46 ∨ 57 < b.toNat) : b ∉ cL c := by
  obtain ⟨a0, a1, a2⟩ := h
  have n0 := no_comma c.f0 a0.1 b (by omega)
  have n1 := no_comma c.f1 a1.1 b (by omega)
  have n2 := no_comma c.f2 a2.1 b (by omega)
  have n3 : b ≠ 46 := fun e => by
    have := congrArg UInt8.toNat e
    have h46 : (46 : UInt8).toNat = 46 := rfl
    omega
  unfold cL
  simp only [List.mem_append, List.mem_singleton]
  rintro ((((h | h) | h) | h) | h)
  · exact n0 h
  · exact n3 h
  · exact n1 h
  · exact n3 h
  · exact n2 h
theorem join_no (c b : UInt8) (hcb : b ≠ c) : ∀ ws : List (List UInt8), (∀ w ∈ ws, b ∉ w) → b ∉ Go.Lib.join ws [c]
  | [], _ => by simp [Go.Lib.join_nil]
  | [x], h => by
    rw [Go.Lib.join_one]
    exact h x List.mem_cons_self
  | x :: y :: r, h => by
    have ih := join_no c b hcb (y :: r) fun w hw => h w (List.mem_cons_of_mem _ hw)
    have hx := h x List.mem_cons_self
    rw [join_two]
    simp only [List.mem_append, List.mem_singleton]
    rintro ((h1 | h1) | h1)
    · exact hx h1
    · exact hcb h1
    · exact ih h1
/-- What a good puzzle's text is split into. -/
theorem puz_split {p : Int} {l : List S80} (h : puz p l = true) : sp 97 (puzText p l) = [Go.Lib.itoa p, Go.Lib.join (l.map cL) [44]] ∧ Go.Lib.cut (puzText p l) [97] = (Go.Lib.itoa p, Go.Lib.join (l.map cL) [44], true) ∧ (puzText p l).length ≤ 60 ∧ (l ≠ [] → sp 44 (Go.Lib.join (l.map cL) [44]) = l.map cL ∧ Go.Lib.join (l.map cL) [44] ≠ []) := by
  obtain ⟨hp, hl, hb⟩ := puz_iff h
  have hno : (97 : UInt8) ∉ Go.Lib.itoa p := no_comma p (by omega) 97 (.inr (by decide))
  have hno2 : (97 : UInt8) ∉ Go.Lib.join (l.map cL) [44] := join_no 44 97 (by decide) _ fun w hw => by
    obtain ⟨x, hx, rfl⟩ := List.mem_map.1 hw
    exact cL_no (hb x hx) 97 (.inr (by decide))
  have e : puzText p l = Go.Lib.itoa p ++ 97 :: Go.Lib.join (l.map cL) [44] := by
    unfold puzText
    rw [List.append_assoc, List.singleton_append]
  refine ⟨by rw [e, sp_hit _ hno, sp_miss hno2], by rw [e, cut_hit _ _ hno], ?_, fun hne => ⟨?_, ?_⟩⟩
  · have h1 := join_len [44] 8 (l.map cL) (fun w hw => by
      obtain ⟨x, hx, rfl⟩ := List.mem_map.1 hw
      exact cL_len8 (hb x hx))
    have h2 := one_dig p (by omega)
    rw [List.length_map, List.length_singleton] at h1
    rw [e, List.length_append, List.length_cons]
    omega
  · refine sp_join 44 _ (by simpa using hne) (fun w hw => ?_)
    obtain ⟨x, hx, rfl⟩ := List.mem_map.1 hw
    exact cL_no (hb x hx) 44 (.inl (by decide))
  · cases l with
    | nil => exact absurd rfl hne
    | cons c r =>
      intro h0
      rw [List.map_cons, Go.Lib.join_cons] at h0
      exact cL_ne c (List.append_eq_nil_iff.1 h0).1
theorem rdOf_map (xs : List (List UInt8)) (i : Nat) (h : i < xs.length) : rdOf ByteArray.empty (xs.map bs) (i : Int) = bs xs[i] := by
  unfold rdOf
  rw [Int.toNat_natCast, List.getD_eq_getElem?_getD, List.getElem?_map, List.getElem?_eq_getElem h]
  rfl
theorem toList_bs (l : List UInt8) : (bs l).toList = l := by rw [Go.Lib.toList_data, bs_data]
/-- What stands behind the reference's loop. -/
def pzEnd (a : ByteArray) (p : Int) (L : List S80) (k : Nat) : Option (Int × (List (S80)) × Bool) := (spec_pzGood.f k p L).bind fun t157 => (if t157 = true then ((spec_pzText.f k p L).bind fun t158 => (some (p, L, (t158.toList == a.toList)))) else (some (p, L, false)))
theorem pzEnd_yes (a : ByteArray) (p : Int) (L : List S80) (h : puz p L = true) (ha : a.data.toList = puzText p L) : Big (pzEnd a p L) (p, L, true) := by
  unfold pzEnd
  refine Big.bind (pzGood_at p L) ?_
  rw [h]
  refine Big.pos rfl (Big.bind (pzText_at h) ?_)
  rw [toList_bs, Go.Lib.toList_data, ha, beq_self_eq_true]
  exact Big.some_ _
/-- The text is that of no puzzle. -/
def noPuz (a : ByteArray) : Prop := ∀ (p : Int) (L : List S80), puz p L = true → a.data.toList ≠ puzText p L
theorem pzEnd_no (a : ByteArray) (hN : noPuz a) (p : Int) (L : List S80) : Big (pzEnd a p L) (p, L, false) := by
  unfold pzEnd
  refine Big.bind (pzGood_at p L) ?_
  cases h : puz p L
  · exact Big.neg (by decide) (Big.some_ _)
  · refine Big.pos rfl (Big.bind (pzText_at h) ?_)
    rw [toList_bs, Go.Lib.toList_data]
    have : (puzText p L == a.data.toList) = false := by
      rw [beq_eq_false_iff_ne]
      exact fun e => hN p L h e.symm
    rw [this]
    exact Big.some_ _
theorem pzParse_yes (a : ByteArray) (p : Int) (l : List S80) (h : puz p l = true) (ha : a.data.toList = puzText p l) (d : Nat) : ∀ i : Nat, i + d = l.length → Big (fun k => spec_pzParse.l0 k a ((l.map cL).map bs) (((l.map cL).map bs).length : Int) i p (l.take i)) (p, l, true) := by
  obtain ⟨hp, hl, hb⟩ := puz_iff h
  have hml : ((l.map cL).map bs).length = l.length := by simp only [List.length_map]
  rw [hml]
  induction d with
  | zero =>
    intro i hi
    rw [List.take_of_length_le (show l.length ≤ i by omega)]
    refine Big.succ ?_
    unfold spec_pzParse.l0
    exact Big.neg (by omega) (pzEnd_yes a p l h ha)
  | succ d ih =>
    intro i hi
    have hlt : i < l.length := by omega
    have hc := hb _ (List.getElem_mem hlt)
    have er : rdOf ByteArray.empty ((l.map cL).map bs) (i : Int) = bs (cL l[i]) := by
      rw [rdOf_map _ i (by rw [List.length_map]; exact hlt), List.getElem_map]
    have hlen := cL_len8 hc
    have hS := l1Split_at (bs (cL l[i])) (by rw [bs_size]; omega) 46
    rw [bs_data, cL_sp hc] at hS
    obtain ⟨a0, a1, a2⟩ := hc
    refine Big.succ ?_
    unfold spec_pzParse.l0
    rw [er, w64n (by omega)]
    refine Big.pos (by omega) ?_
    refine Big.pos (by omega) ?_
    refine Big.pos (by rw [hml]; omega) ?_
    refine Big.bind hS ?_
    refine Big.pos rfl ?_
    refine Big.pos (by simp) ?_
    refine Big.bind (l1Read_at (l[i]).f0 (by omega)) ?_
    refine Big.pos (by simp) ?_
    refine Big.bind (l1Read_at (l[i]).f1 (by omega)) ?_
    refine Big.pos (by simp) ?_
    refine Big.bind (l1Read_at (l[i]).f2 (by omega)) ?_
    refine Big.pos (by rw [List.length_take]; omega) ?_
    have e : l.take i ++ [(⟨(l[i]).f0, (l[i]).f1, (l[i]).f2⟩ : S80)] = l.take (i + 1) := by
      rw [List.take_succ_eq_append_getElem hlt]
    rw [e]
    exact ih (i + 1) (by omega)
theorem pzParse_no (a : ByteArray) (hN : noPuz a) (W : List (List UInt8)) (hl : W.length ≤ 1000) (hw : ∀ w ∈ W, w.length ≤ 1048576) (p : Int) (d : Nat) : ∀ (i : Nat) (L : List S80), i + d = W.length → L.length ≤ i → ∃ R : Int × (List (S80)) × Bool, R.2.2 = false ∧ Big (fun k => spec_pzParse.l0 k a (W.map bs) (W.length : Int) i p L) R := by
  obtain ⟨g, hg⟩ := Classical.axiomOfChoice l1Read_tot
  induction d with
  | zero =>
    intro i L hi hL
    refine ⟨(p, L, false), rfl, Big.succ ?_⟩
    unfold spec_pzParse.l0
    exact Big.neg (by omega) (pzEnd_no a hN p L)
  | succ d ih =>
    intro i L hi hL
    have hlt : i < W.length := by omega
    have er : rdOf ByteArray.empty (W.map bs) (i : Int) = bs W[i] := rdOf_map W i hlt
    have hS := l1Split_at (bs W[i]) (by rw [bs_size]; exact hw _ (List.getElem_mem hlt)) 46
    rw [bs_data] at hS
    by_cases h3 : (sp 46 W[i]).length = 3
    · obtain ⟨R, hR, hB⟩ := ih (i + 1) (L ++ [(⟨g (rdOf ByteArray.empty ((sp 46 W[i]).map bs) 0), g (rdOf ByteArray.empty ((sp 46 W[i]).map bs) 1), g (rdOf ByteArray.empty ((sp 46 W[i]).map bs) 2)⟩ : S80)]) (by omega) (by rw [List.length_append, List.length_singleton]; omega)
      refine ⟨R, hR, Big.succ ?_⟩
      unfold spec_pzParse.l0
      rw [er, w64n (by omega)]
      refine Big.pos (by omega) ?_
      refine Big.pos (by omega) ?_
      refine Big.pos (by rw [List.length_map]; omega) ?_
      refine Big.bind hS ?_
      refine Big.pos (by rw [List.length_map, h3]; rfl) ?_
      refine Big.pos (by rw [List.length_map, h3]; decide) ?_
      refine Big.bind (hg _) ?_
      refine Big.pos (by rw [List.length_map, h3]; decide) ?_
      refine Big.bind (hg _) ?_
      refine Big.pos (by rw [List.length_map, h3]; decide) ?_
      refine Big.bind (hg _) ?_
      refine Big.pos (by omega) ?_
      exact hB
    · refine ⟨(0, [], false), rfl, Big.succ ?_⟩
      unfold spec_pzParse.l0
      rw [er, w64n (by omega)]
      refine Big.pos (by omega) ?_
      refine Big.pos (by omega) ?_
      refine Big.pos (by rw [List.length_map]; omega) ?_
      refine Big.bind hS ?_
      exact Big.neg (by rw [List.length_map]; omega) (Big.some_ _)
theorem ParsePuzzle_spec_yes (a : ByteArray) (p : Int) (l : List S80) (h : puz p l = true) (ha : a.data.toList = puzText p l) : Big (fun k => spec_ParsePuzzle.f k a) (p, l, true) := by
  have hlen : a.data.toList.length = a.size := (Go.Lib.size_eq a).symm
  obtain ⟨hp, hl, hb⟩ := puz_iff h
  obtain ⟨h1, _, h3, h4⟩ := puz_split h
  have hsz : a.size ≤ 60 := by
    rw [← hlen, ha]
    exact h3
  have hS := l1Split_at a (by omega) 97
  rw [ha, h1] at hS
  suffices hP : Big (fun k => spec_pzParse.f k a) (p, l, true) by
    unfold spec_ParsePuzzle.f
    exact Big.bind hP (Big.pos rfl (Big.some_ _))
  unfold spec_pzParse.f
  refine Big.bind hS ?_
  refine Big.neg (by omega) ?_
  refine Big.succ ?_
  unfold spec_pzParse.j0
  refine Big.neg (by simp) ?_
  refine Big.pos (by simp) ?_
  refine Big.bind (l1Read_at p (by omega)) ?_
  refine Big.pos (by simp) ?_
  have e1 : rdOf ByteArray.empty ([Go.Lib.itoa p, Go.Lib.join (l.map cL) [44]].map bs) 1 = bs (Go.Lib.join (l.map cL) [44]) := rfl
  rw [e1]
  cases l with
  | nil =>
    refine Big.neg (by rw [bs_size]; simp [Go.Lib.join_nil]) ?_
    exact pzEnd_yes a p [] h ha
  | cons c r =>
    obtain ⟨h5, h6⟩ := h4 (by simp)
    have hj : (Go.Lib.join ((c :: r).map cL) [44]).length ≤ 60 := by
      unfold puzText at h3
      simp only [List.length_append] at h3
      omega
    refine Big.pos (by rw [bs_size]; have := List.length_pos_iff.2 h6; omega) ?_
    have hS2 := l1Split_at (bs (Go.Lib.join ((c :: r).map cL) [44])) (by rw [bs_size]; omega) 44
    rw [bs_data, h5] at hS2
    refine Big.bind hS2 ?_
    exact pzParse_yes a p (c :: r) h ha (c :: r).length 0 (by omega)
theorem ParsePuzzle_spec_no (a : ByteArray) (hs : a.size ≤ 1048576) (hN : noPuz a) : Big (fun k => spec_ParsePuzzle.f k a) (0, [], false) := by
  have hlen : a.data.toList.length = a.size := (Go.Lib.size_eq a).symm
  obtain ⟨g, hg⟩ := Classical.axiomOfChoice l1Read_tot
  suffices hP : ∃ R : Int × (List (S80)) × Bool, R.2.2 = false ∧ Big (fun k => spec_pzParse.f k a) R by
    obtain ⟨R, hR, hB⟩ := hP
    unfold spec_ParsePuzzle.f
    refine Big.bind hB ?_
    exact Big.neg (by rw [hR]; decide) (Big.some_ _)
  have hS := l1Split_at a hs 97
  have hj : ∀ W, Big (fun k => spec_pzParse.j0 k a W true) (0, [], false) := fun W => Big.succ (by
    unfold spec_pzParse.j0
    exact Big.pos rfl (Big.some_ _))
  by_cases h60 : (a.size : Int) > 60
  · refine ⟨(0, [], false), rfl, ?_⟩
    unfold spec_pzParse.f
    exact Big.bind hS (Big.pos h60 (hj _))
  · by_cases h2 : (sp 97 a.data.toList).length = 2
    · have hw := sp_word 97 a.data.toList
      match hsp : sp 97 a.data.toList, h2 with
      | [u, v], _ =>
        rw [hsp] at hS hw
        have hv := hw v (by simp)
        have hS2 := l1Split_at (bs v) (by rw [bs_size]; omega) 44
        rw [bs_data] at hS2
        have hv2 := sp_len 44 v
        have hw2 := sp_word 44 v
        obtain ⟨R, hR, hB⟩ := pzParse_no a hN (sp 44 v) (by omega) (fun w h => by have := hw2 w h; omega) (g (bs u)) (sp 44 v).length 0 [] (by omega) (by simp)
        refine ⟨if ((bs v).size : Int) > 0 then R else (g (bs u), [], false), by split <;> first | exact hR | rfl, ?_⟩
        unfold spec_pzParse.f
        refine Big.bind hS ?_
        refine Big.neg h60 ?_
        refine Big.succ ?_
        unfold spec_pzParse.j0
        refine Big.neg (by simp) ?_
        refine Big.pos (by simp) ?_
        refine Big.bind (hg (bs u)) ?_
        refine Big.pos (by simp) ?_
        have e1 : rdOf ByteArray.empty ([u, v].map bs) 1 = bs v := rfl
        rw [e1]
        by_cases h0 : ((bs v).size : Int) > 0
        · rw [if_pos h0]
          refine Big.pos h0 ?_
          refine Big.bind hS2 ?_
          rw [List.length_map]
          exact hB
        · rw [if_neg h0]
          refine Big.neg h0 ?_
          exact pzEnd_no a hN (g (bs u)) []
    · refine ⟨(0, [], false), rfl, ?_⟩
      unfold spec_pzParse.f
      refine Big.bind hS ?_
      refine Big.neg h60 ?_
      have e : ((((sp 97 a.data.toList).map bs).length : Int) != 2) = true := by
        rw [List.length_map, bne_iff_ne]
        omega
      rw [e]
      exact hj _
theorem impl_j1_yes (a : ByteArray) (p : Int) (l : List S80) (h : puz p l = true) (ha : a.data.toList = puzText p l) : Big (fun k => impl_ParsePuzzle.j1 k a true p l) (p, l, true) := by
  refine Big.succ ?_
  unfold impl_ParsePuzzle.j1
  refine Big.pos rfl ?_
  refine Big.bind (IsPuzzle_at p l) ?_
  rw [h]
  refine Big.pos rfl (Big.bind (puzText_at h) ?_)
  exact Big.pos (by rw [toList_bs, Go.Lib.toList_data, ha]) (Big.some_ _)
theorem impl_j1_no (a : ByteArray) (hN : noPuz a) (b : Bool) (p : Int) (l : List S80) : Big (fun k => impl_ParsePuzzle.j1 k a b p l) (0, [], false) := by
  refine Big.succ ?_
  unfold impl_ParsePuzzle.j1
  cases b
  · exact Big.neg (by decide) (Big.some_ _)
  · refine Big.pos rfl (Big.bind (IsPuzzle_at p l) ?_)
    cases h : puz p l
    · exact Big.neg (by decide) (Big.some_ _)
    · refine Big.pos rfl (Big.bind (puzText_at h) ?_)
      exact Big.neg (by rw [toList_bs, Go.Lib.toList_data]; exact fun e => hN p l h e.symm) (Big.some_ _)
theorem impl_l_yes (a : ByteArray) (p : Int) (l : List S80) (h : puz p l = true) (ha : a.data.toList = puzText p l) (d : Nat) : ∀ i : Nat, i + d = l.length → Big (fun k => impl_ParsePuzzle.l0 k a true ((l.map cL).map bs) (((l.map cL).map bs).length : Int) i p (l.take i)) (p, l, true) := by
  obtain ⟨hp, hl, hb⟩ := puz_iff h
  have hml : ((l.map cL).map bs).length = l.length := by simp only [List.length_map]
  rw [hml]
  induction d with
  | zero =>
    intro i hi
    rw [List.take_of_length_le (show l.length ≤ i by omega)]
    refine Big.succ ?_
    unfold impl_ParsePuzzle.l0
    exact Big.neg (by omega) (impl_j1_yes a p l h ha)
  | succ d ih =>
    intro i hi
    have hlt : i < l.length := by omega
    have hc := hb _ (List.getElem_mem hlt)
    have er : rdOf ByteArray.empty ((l.map cL).map bs) (i : Int) = bs (cL l[i]) := by
      rw [rdOf_map _ i (by rw [List.length_map]; exact hlt), List.getElem_map]
    have hlen := cL_len8 hc
    have hS := readNumbers_at (bs (cL l[i])) (by rw [bs_size]; omega) 46
    rw [bs_data, cL_sp hc] at hS
    obtain ⟨a0, a1, a2⟩ := hc
    rw [nums_itoa [(l[i]).f0, (l[i]).f1, (l[i]).f2] (fun x hx => by
      simp only [List.mem_cons, List.mem_nil_iff, or_false] at hx
      rcases hx with rfl | rfl | rfl <;> omega)] at hS
    refine Big.succ ?_
    unfold impl_ParsePuzzle.l0
    rw [er, w64n (by omega)]
    refine Big.pos (by omega) ?_
    refine Big.pos (by omega) ?_
    refine Big.pos (by rw [hml]; omega) ?_
    refine Big.bind hS ?_
    refine Big.pos rfl ?_
    refine Big.pos rfl ?_
    refine Big.neg (by rw [List.length_take]; omega) ?_
    refine Big.pos (by simp) ?_
    refine Big.pos (by simp) ?_
    refine Big.pos (by simp) ?_
    refine Big.pos (by rw [List.length_take]; omega) ?_
    have e : l.take i ++ [(⟨rd [(l[i]).f0, (l[i]).f1, (l[i]).f2] 0, rd [(l[i]).f0, (l[i]).f1, (l[i]).f2] 1, rd [(l[i]).f0, (l[i]).f1, (l[i]).f2] 2⟩ : S80)] = l.take (i + 1) := by
      rw [List.take_succ_eq_append_getElem hlt]
      rfl
    rw [e]
    exact ih (i + 1) (by omega)
theorem impl_l_no (a : ByteArray) (hN : noPuz a) (b : Bool) (W : List (List UInt8)) (hl : W.length ≤ 2000000) (hw : ∀ w ∈ W, w.length ≤ 1048576) (p : Int) (d : Nat) : ∀ (i : Nat) (L : List S80), i + d = W.length → L.length ≤ i → Big (fun k => impl_ParsePuzzle.l0 k a b (W.map bs) (W.length : Int) i p L) (0, [], false) := by
  induction d with
  | zero =>
    intro i L hi hL
    refine Big.succ ?_
    unfold impl_ParsePuzzle.l0
    exact Big.neg (by omega) (impl_j1_no a hN b p L)
  | succ d ih =>
    intro i L hi hL
    have hlt : i < W.length := by omega
    have er : rdOf ByteArray.empty (W.map bs) (i : Int) = bs W[i] := rdOf_map W i hlt
    have hS := readNumbers_at (bs W[i]) (by rw [bs_size]; exact hw _ (List.getElem_mem hlt)) 46
    rw [bs_data] at hS
    generalize numsOut ((sp 46 W[i]).map bs) = N at hS
    obtain ⟨n, ok⟩ := N
    refine Big.succ ?_
    unfold impl_ParsePuzzle.l0
    rw [er, w64n (by omega)]
    refine Big.pos (by omega) ?_
    refine Big.pos (by omega) ?_
    refine Big.pos (by rw [List.length_map]; omega) ?_
    refine Big.bind hS ?_
    cases ok
    · exact Big.neg (by simp) (Big.some_ _)
    · refine Big.pos rfl ?_
      by_cases h3 : (n.length : Int) = 3
      · refine Big.pos h3 ?_
        by_cases h6 : (L.length : Int) = 6
        · exact Big.pos h6 (Big.some_ _)
        · refine Big.neg h6 ?_
          refine Big.pos (by show (0 : Int) < (n.length : Int); omega) ?_
          refine Big.pos (by show (1 : Int) < (n.length : Int); omega) ?_
          refine Big.pos (by show (2 : Int) < (n.length : Int); omega) ?_
          refine Big.pos (by omega) ?_
          exact ih (i + 1) _ (by omega) (by rw [List.length_append, List.length_singleton]; omega)
      · exact Big.neg h3 (Big.some_ _)
theorem ParsePuzzle_impl_yes (a : ByteArray) (p : Int) (l : List S80) (h : puz p l = true) (ha : a.data.toList = puzText p l) : Big (fun k => impl_ParsePuzzle.f k a) (p, l, true) := by
  have hlen : a.data.toList.length = a.size := (Go.Lib.size_eq a).symm
  obtain ⟨hp, hl, hb⟩ := puz_iff h
  obtain ⟨_, h2, h3, h4⟩ := puz_split h
  have hsz : a.size ≤ 60 := by
    rw [← hlen, ha]
    exact h3
  have hC : strings_Cut.f a (⟨#[97]⟩ : ByteArray) = some (bs (Go.Lib.itoa p), bs (Go.Lib.join (l.map cL) [44]), true) := by
    unfold strings_Cut.f
    rw [if_pos (by omega), ha, show (⟨#[97]⟩ : ByteArray).data.toList = [97] from rfl, h2]
    rfl
  have hn := (num_at p (by omega)).2
  have hR : impl_readNumber.f (bs (Go.Lib.itoa p)) = some (p, true) := by
    unfold impl_readNumber.f
    rw [bs_size, if_pos (by omega), word_at p (by omega)]
  unfold impl_ParsePuzzle.f
  rw [hC]
  refine Big.bind (Big.some_ _) ?_
  rw [hR]
  refine Big.bind (Big.some_ _) ?_
  rw [toList_bs]
  cases l with
  | nil =>
    refine Big.pos rfl ?_
    exact impl_j1_yes a p [] h ha
  | cons c r =>
    obtain ⟨h5, h6⟩ := h4 (by simp)
    have hj : (Go.Lib.join ((c :: r).map cL) [44]).length ≤ 60 := by
      unfold puzText at h3
      simp only [List.length_append] at h3
      omega
    refine Big.neg h6 ?_
    have hS := Split_at (bs (Go.Lib.join ((c :: r).map cL) [44])) 44 (by rw [bs_size]; omega)
    rw [bs_data, h5] at hS
    rw [show (⟨#[44]⟩ : ByteArray) = bs [44] from rfl, hS]
    refine Big.bind (Big.some_ _) ?_
    exact impl_l_yes a p (c :: r) h ha (c :: r).length 0 (by omega)
theorem ParsePuzzle_impl_no (a : ByteArray) (hs : a.size ≤ 1048576) (hN : noPuz a) : Big (fun k => impl_ParsePuzzle.f k a) (0, [], false) := by
  have hlen : a.data.toList.length = a.size := (Go.Lib.size_eq a).symm
  obtain ⟨hc1, hc2⟩ := cut_len a.data.toList [97]
  have hC : strings_Cut.f a (⟨#[97]⟩ : ByteArray) = some (bs (Go.Lib.cut a.data.toList [97]).1, bs (Go.Lib.cut a.data.toList [97]).2.1, (Go.Lib.cut a.data.toList [97]).2.2) := by
    unfold strings_Cut.f
    rw [if_pos (by omega), show (⟨#[97]⟩ : ByteArray).data.toList = [97] from rfl]
    rfl
  generalize Go.Lib.cut a.data.toList [97] = C at hC hc1 hc2
  obtain ⟨u, v, f⟩ := C
  have hu : u.length ≤ a.data.toList.length := hc1
  have hv : v.length ≤ a.data.toList.length := hc2
  have hR : impl_readNumber.f (bs u) = some (readWord (bs u)) := by
    unfold impl_readNumber.f
    rw [bs_size, if_pos (by omega)]
  generalize readWord (bs u) = N at hR
  obtain ⟨n, ok⟩ := N
  unfold impl_ParsePuzzle.f
  rw [hC]
  refine Big.bind (Big.some_ _) ?_
  show Big (fun k => (impl_readNumber.f (bs u)).bind _) _
  rw [hR]
  refine Big.bind (Big.some_ _) ?_
  show Big (fun k => if (bs v).toList = ([] : List UInt8) then impl_ParsePuzzle.j1 k a ok n [] else (strings_Split.f (bs v) (⟨#[44]⟩ : ByteArray)).bind fun t237 => (impl_ParsePuzzle.l0 k a ok t237 (t237.length : Int) 0 n [])) _
  by_cases h0 : (bs v).toList = ([] : List UInt8)
  · exact Big.pos h0 (impl_j1_no a hN ok n [])
  · refine Big.neg h0 ?_
    have hS := Split_at (bs v) 44 (by rw [bs_size]; omega)
    rw [bs_data] at hS
    rw [show (⟨#[44]⟩ : ByteArray) = bs [44] from rfl, hS]
    refine Big.bind (Big.some_ _) ?_
    rw [List.length_map]
    have hl2 := sp_len 44 v
    have hw2 := sp_word 44 v
    exact impl_l_no a hN ok (sp 44 v) (by omega) (fun w h => by have := hw2 w h; omega) n (sp 44 v).length 0 [] (by omega) (by simp)
theorem ParsePuzzle_both (a : ByteArray) (hs : a.size ≤ 1048576) : ∃ R : Int × List S80 × Bool, R.2.1.length ≤ 1048576 ∧ Big (fun k => spec_ParsePuzzle.f k a) R ∧ Big (fun k => impl_ParsePuzzle.f k a) R := by
  by_cases h : ∃ (p : Int) (L : List S80), puz p L = true ∧ a.data.toList = puzText p L
  · obtain ⟨p, L, h1, h2⟩ := h
    exact ⟨(p, L, true), by have := (puz_iff h1).2.1; show L.length ≤ 1048576; omega, ParsePuzzle_spec_yes a p L h1 h2, ParsePuzzle_impl_yes a p L h1 h2⟩
  · have hN : noPuz a := fun p L h1 h2 => h ⟨p, L, h1, h2⟩
    exact ⟨(0, [], false), by simp, ParsePuzzle_spec_no a hs hN, ParsePuzzle_impl_no a hs hN⟩
end Go.Proofs.YtknigfnbhlmlgaaDoor.Q
