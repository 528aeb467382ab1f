/- The texts of puzzles: the program's and the reference's are alike. Conditions: as typed. -/
import Derived.Test.YtknigfnbhlmlgaaDoorQoJoinQ
import Derived.Test.YtknigfnbhlmlgaaDoorQoPuzA
import Derived.Test.YtknigfnbhlmlgaaDoorO0
import Derived.Test.YtknigfnbhlmlgaaDoorO10
import Derived.Test.YtknigfnbhlmlgaaDoorO5
namespace Go.Proofs.YtknigfnbhlmlgaaDoor.Q
open Go.RowKit Go.Proofs.YtknigfnbhlmlgaaDoor.O Go.Proofs.YtknigfnbhlmlgaaDoorW.PrintWords Go.Proofs.YtknigfnbhlmlgaaDoorW.PrintLast
set_option linter.unusedSimpArgs false

/-- A clue's numbers are small. -/
def clueSmall (c : S80) : Prop := (0 ≤ c.f0 ∧ c.f0 ≤ 6) ∧ (0 ≤ c.f1 ∧ c.f1 ≤ 9) ∧ 0 ≤ c.f2 ∧ c.f2 ≤ 2000
theorem clue_small {p : Int} (hp : 2 ≤ p ∧ p ≤ 3) {c : S80} (h : clueB p c.f0 c.f1 c.f2 = true) : clueSmall c := by
  unfold clueB at h
  unfold clueSmall
  rw [Bool.and_eq_true, inR_iff] at h
  obtain ⟨h1, h2⟩ := h
  split at h2
  · rw [beq_iff_eq] at h2
    omega
  · split at h2
    · rw [inR_iff] at h2
      omega
    · split at h2
      · rw [Bool.and_eq_true, inR_iff] at h2
        omega
      · split at h2
        · rw [Bool.and_eq_true, inR_iff] at h2
          omega
        · cases h2
theorem puz_iff {p : Int} {l : List S80} (h : puz p l = true) : (2 ≤ p ∧ p ≤ 3) ∧ l.length ≤ 6 ∧ ∀ c ∈ l, clueSmall c := by
  unfold puz at h
  rw [Bool.and_eq_true, Bool.and_eq_true, inR_iff, decide_eq_true_iff, List.all_eq_true] at h
  exact ⟨h.1, h.2.1, fun c hc => clue_small h.1 (h.2.2 c hc)⟩
/-- A clue's text, as bytes. -/
def cL (c : S80) : List UInt8 := Go.Lib.itoa c.f0 ++ [46] ++ Go.Lib.itoa c.f1 ++ [46] ++ Go.Lib.itoa c.f2
/-- A puzzle's text. -/
def puzText (p : Int) (l : List S80) : List UInt8 := Go.Lib.itoa p ++ [97] ++ Go.Lib.join (l.map cL) [44]
theorem cL_len {c : S80} (h : clueSmall c) : (cL c).length ≤ 14 := by
  obtain ⟨a, b, d⟩ := h
  have h0 := (num_at c.f0 (by omega)).2
  have h1 := (num_at c.f1 (by omega)).2
  have h2 := (num_at c.f2 (by omega)).2
  unfold cL
  simp only [List.length_append, List.length_singleton]
  omega
theorem pzText_l (hd : List UInt8) (l : List (S80)) (hl : l.length ≤ 6) (hb : ∀ x ∈ l, clueSmall x) (d : Nat) : ∀ (i : Nat) (acc : List UInt8), i + d = l.length → acc = hd ++ Go.Lib.join ((l.take i).map cL) [44] → acc.length ≤ 10 + 20 * i → Big (fun k => spec_pzText.l0 k (bs acc) l (l.length : Int) i) (bs (hd ++ Go.Lib.join (l.map cL) [44])) := by
  induction d with
  | zero =>
    intro i acc hi ha _
    refine Big.succ ?_
    unfold spec_pzText.l0
    refine Big.neg (by omega) ?_
    rw [ha, List.take_of_length_le (show l.length ≤ i by omega)]
    exact Big.some_ _
  | succ d ih =>
    intro i acc hi ha hs
    have hlt : i < l.length := by omega
    have er : rd_T80 l (i : Int) = l[i] := rdT_nat l i hlt
    obtain ⟨a0, a1, a2⟩ := hb _ (List.getElem_mem hlt)
    obtain ⟨hn0, hlen0⟩ := num_at (l[i]).f0 (by omega)
    obtain ⟨hn1, hlen1⟩ := num_at (l[i]).f1 (by omega)
    obtain ⟨hn2, hlen2⟩ := num_at (l[i]).f2 (by omega)
    have hsnoc : (l.take (i + 1)).map cL = (l.take i).map cL ++ [cL l[i]] := by
      rw [List.take_succ_eq_append_getElem hlt, List.map_append]
      rfl
    refine Big.succ ?_
    unfold spec_pzText.l0
    rw [er, w64n (show i < 9223372036854775807 by omega), show (⟨#[44]⟩ : ByteArray) = bs [44] from rfl, show (⟨#[46]⟩ : ByteArray) = bs [46] from rfl]
    refine Big.pos (by omega) ?_
    refine Big.pos (by omega) ?_
    refine Big.pos (by omega) ?_
    by_cases hi0 : i = 0
    · subst hi0
      refine Big.neg (by omega) ?_
      refine Big.bind hn0 ?_
      refine Big.pos (by simp only [bs_append, bs_size, List.length_append, List.length_singleton]; omega) ?_
      refine Big.bind hn1 ?_
      refine Big.pos (by simp only [bs_append, bs_size, List.length_append, List.length_singleton]; omega) ?_
      refine Big.pos (by simp only [bs_append, bs_size, List.length_append, List.length_singleton]; omega) ?_
      refine Big.bind hn2 ?_
      refine Big.pos (by simp only [bs_append, bs_size, List.length_append, List.length_singleton]; omega) ?_
      refine Big.pos (by simp only [bs_append, bs_size, List.length_append, List.length_singleton]; omega) ?_
      simp only [bs_append]
      have e0 : acc ++ cL l[0] = hd ++ Go.Lib.join ((l.take (0 + 1)).map cL) [44] := by
        rw [hsnoc, ha]
        simp [Go.Lib.join_nil, Go.Lib.join_one]
      exact ih (0 + 1) _ (by omega) e0 (by simp only [List.length_append, List.length_singleton]; omega)
    · refine Big.pos (by omega) ?_
      refine Big.pos (by simp only [bs_append, bs_size, List.length_append, List.length_singleton]; omega) ?_
      refine Big.bind hn0 ?_
      refine Big.pos (by simp only [bs_append, bs_size, List.length_append, List.length_singleton]; omega) ?_
      refine Big.bind hn1 ?_
      refine Big.pos (by simp only [bs_append, bs_size, List.length_append, List.length_singleton]; omega) ?_
      refine Big.pos (by simp only [bs_append, bs_size, List.length_append, List.length_singleton]; omega) ?_
      refine Big.bind hn2 ?_
      refine Big.pos (by simp only [bs_append, bs_size, List.length_append, List.length_singleton]; omega) ?_
      refine Big.pos (by simp only [bs_append, bs_size, List.length_append, List.length_singleton]; omega) ?_
      simp only [bs_append]
      have hne : (l.take i).map cL ≠ [] := by
        intro hh
        have := congrArg List.length hh
        rw [List.length_map, List.length_take, List.length_nil] at this
        omega
      have e0 : acc ++ [44] ++ cL l[i] = hd ++ Go.Lib.join ((l.take (i + 1)).map cL) [44] := by
        rw [hsnoc, join_snoc _ _ _ hne, ha]
        simp only [List.append_assoc]
      exact ih (i + 1) _ (by omega) e0 (by simp only [List.length_append, List.length_singleton]; omega)
theorem pzText_at {p : Int} {l : List (S80)} (h : puz p l = true) : Big (fun k => spec_pzText.f k p l) (bs (puzText p l)) := by
  obtain ⟨hp, hl, hb⟩ := puz_iff h
  obtain ⟨hn, hlen⟩ := num_at p (by omega)
  unfold spec_pzText.f
  refine Big.bind hn ?_
  refine Big.pos (by simp only [bs_size]; omega) ?_
  rw [show (⟨#[97]⟩ : ByteArray) = bs [97] from rfl, bs_append]
  exact pzText_l _ l hl hb l.length 0 _ (by omega) (by simp [Go.Lib.join_nil]) (by simp only [List.length_append, List.length_singleton]; omega)
theorem clue3 (c : S80) : Go.Lib.join ([c.f0, c.f1, c.f2].map Go.Lib.itoa) [46] = cL c := by
  simp [Go.Lib.join_cons, Go.Lib.joinTail, cL]
theorem puzText_l (p : Int) (hp : 2 ≤ p ∧ p ≤ 3) (l : List (S80)) (hl : l.length ≤ 6) (hb : ∀ x ∈ l, clueSmall x) (d : Nat) : ∀ i : Nat, i + d = l.length → Big (fun k => impl_Puzzle_text.l0 k (((l.take i).map cL).map bs) l (l.length : Int) i p l) (bs (puzText p l)) := by
  induction d with
  | zero =>
    intro i hi
    have hj := join_len [44] 14 (l.map cL) (fun x hx => by
      obtain ⟨y, hy, rfl⟩ := List.mem_map.1 hx
      exact cL_len (hb y hy))
    rw [List.length_map, List.length_singleton] at hj
    have hn := (num_at p (by omega)).2
    refine Big.succ ?_
    unfold impl_Puzzle_text.l0 impl_textOf.f
    refine Big.neg (by omega) ?_
    rw [Itoa_at p (by omega), List.take_of_length_le (show l.length ≤ i by omega), show (⟨#[44]⟩ : ByteArray) = bs [44] from rfl, show (⟨#[97]⟩ : ByteArray) = bs [97] from rfl, Join_at _ _ (by rw [List.length_map]; omega) (by omega)]
    refine Big.pos (by simp only [bs_size]; omega) ?_
    refine Big.pos (by simp only [bs_append, bs_size, List.length_append, List.length_singleton]; omega) ?_
    rw [bs_append, bs_append]
    exact Big.some_ _
  | succ d ih =>
    intro i hi
    have hlt : i < l.length := by omega
    have er : rd_T80 l (i : Int) = l[i] := rdT_nat l i hlt
    obtain ⟨a0, a1, a2⟩ := hb _ (List.getElem_mem hlt)
    have hj := joined_at [(l[i]).f0, (l[i]).f1, (l[i]).f2] (fun x hx => by
      simp only [List.mem_cons, List.mem_nil_iff, or_false] at hx
      rcases hx with rfl | rfl | rfl <;> omega) (by simp) [46] (by simp)
    rw [clue3] at hj
    refine Big.succ ?_
    unfold impl_Puzzle_text.l0
    rw [er, w64n (show i < 9223372036854775807 by omega), show (⟨#[46]⟩ : ByteArray) = bs [46] from rfl]
    refine Big.pos (by omega) ?_
    refine Big.pos (by omega) ?_
    refine Big.pos (by omega) ?_
    refine Big.bind hj ?_
    refine Big.pos (by rw [List.length_map, List.length_map, List.length_take]; omega) ?_
    have e : ((l.take i).map cL).map bs ++ [bs (cL l[i])] = ((l.take (i + 1)).map cL).map bs := by
      rw [List.take_succ_eq_append_getElem hlt, List.map_append, List.map_append]
      rfl
    rw [e]
    exact ih (i + 1) (by omega)
theorem puzText_at {p : Int} {l : List (S80)} (h : puz p l = true) : Big (fun k => impl_Puzzle_text.f k p l) (bs (puzText p l)) := by
  obtain ⟨hp, hl, hb⟩ := puz_iff h
  exact puzText_l p hp l hl hb l.length 0 (by omega)
end Go.Proofs.YtknigfnbhlmlgaaDoor.Q
