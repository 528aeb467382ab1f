/- The text of a number: the reference's own digits are the library's. Condition: a number from 0 to 100000. -/
import Derived.Test.YtecdijlfnnminaaGreatDoorQ1
import Derived.Lib.ItoaLen
import Derived.Test.YtecdijlfnnminaaGreatDoorR0
import Derived.Test.YtecdijlfnnminaaGreatDoorQ2
import Derived.Lib.SplitLaws
import Derived.Lib.CutLaws
import Derived.Lib.AtoiAllCases
import Derived.Lib.ItoaWalk
set_option linter.all false
namespace Go.Proofs.YtecdijlfnnminaaGreatDoor.Q
open Go.RowKit Go Go.Proofs.YtecdijlfnnminaaGreatDoor.Eng Go.Proofs.YtecdijlfnnminaaGreatDoor Go.Proofs.YtecdijlfnnminaaGreatDoor.Y
set_option linter.unusedSimpArgs false

theorem num_at (x : Int) (h : 0 ≤ x ∧ x ≤ 9999) : Big (fun _ => spec_l1Num.f x) (Go.Lib.itoa x) ∧ (Go.Lib.itoa x).length ≤ 4 := by
 refine ⟨Big.of (by unfold spec_l1Num.f; rw [if_pos h]), ?_⟩
 obtain ⟨n, rfl⟩ : ∃ n : Nat, x = (n : Int) := ⟨x.toNat, by omega⟩
 have := (l1Num_r 4 n (by omega) (by omega) (by omega)).2
 unfold Go.Lib.itoa
 rw [if_neg (by omega)]
 exact this
theorem join_snoc (xs : List (List UInt8)) (y sep : List UInt8) (h : xs ≠ []) : Go.Lib.join (xs ++ [y]) sep = Go.Lib.join xs sep ++ sep ++ y := by
 cases xs with
 | nil => exact absurd rfl h
 | cons x r =>
  rw [List.cons_append, Go.Lib.join_cons, Go.Lib.join_cons]
  simp [Go.Lib.joinTail, List.append_assoc]
theorem joinTail_len (sep : List UInt8) (B : Nat) (r : List (List UInt8)) (h : ∀ x ∈ r, x.length ≤ B) : (Go.Lib.joinTail sep r).length ≤ r.length * (B + sep.length) := by
 induction r with
 | nil => simp [Go.Lib.joinTail]
 | cons y r ih =>
  have e : Go.Lib.joinTail sep (y :: r) = sep ++ y ++ Go.Lib.joinTail sep r := by simp [Go.Lib.joinTail]
  have h1 := ih fun x hx => h x (List.mem_cons_of_mem _ hx)
  have h2 := h y List.mem_cons_self
  rw [e, List.length_append, List.length_append, List.length_cons, Nat.succ_mul]
  omega
theorem join_len (sep : List UInt8) (B : Nat) (r : List (List UInt8)) (h : ∀ x ∈ r, x.length ≤ B) : (Go.Lib.join r sep).length ≤ r.length * (B + sep.length) := by
 cases r with
 | nil => simp [Go.Lib.join_nil]
 | cons x r =>
  have h1 := joinTail_len sep B r fun x hx => h x (List.mem_cons_of_mem _ hx)
  have h2 := h x List.mem_cons_self
  rw [Go.Lib.join_cons, List.length_append, List.length_cons, Nat.succ_mul]
  omega
end Go.Proofs.YtecdijlfnnminaaGreatDoor.Q
set_option linter.all false
namespace Go.Proofs.YtecdijlfnnminaaGreatDoor.Q
open Go.RowKit Go Go.Proofs.YtecdijlfnnminaaGreatDoor.Eng Go.Proofs.YtecdijlfnnminaaGreatDoor Go.Proofs.YtecdijlfnnminaaGreatDoor.Y
set_option linter.unusedSimpArgs false

theorem Join_at (xs : List (List UInt8)) (sep : List UInt8) (hn : xs.length ≤ 140737488355328) (hj : (Go.Lib.join xs sep).length ≤ 140737488355328) : S.strings_Join.f xs sep = some (Go.Lib.join xs sep) := by
 unfold S.strings_Join.f
 rw [if_pos ⟨hn, hj⟩]
theorem Itoa_at (x : Int) (h : -9223372036854775808 ≤ x ∧ x ≤ 9223372036854775807) : S.strconv_Itoa.f x = some (Go.Lib.itoa x) := by
 unfold S.strconv_Itoa.f
 rw [if_pos h]
theorem joined_l (l : List Int) (hw : ∀ x ∈ l, -9223372036854775808 ≤ x ∧ x ≤ 9223372036854775807) (hl : l.length ≤ 1000000) (sep : List UInt8) (hs : sep.length ≤ 1000) (d : Nat) : ∀ i : Nat, i + d = l.length → Big (fun k => impl_joined.l0 k (sep) (((l.take i).map Go.Lib.itoa)) l (l.length : Int) i) ((Go.Lib.join (l.map Go.Lib.itoa) sep)) := by
 induction d with
 | zero =>
  intro i hi
  refine Big.succ ?_
  unfold impl_joined.l0
  refine Big.neg (by omega) ?_
  rw [List.take_of_length_le (show l.length ≤ i by omega)]
  have hj := join_len sep 21 (l.map Go.Lib.itoa) (fun x hx => by
   obtain ⟨y, hy, rfl⟩ := List.mem_map.1 hx
   exact Go.Lib.itoa_length_le y (hw y hy).1 (hw y hy).2)
  rw [List.length_map] at hj
  have hj2 : l.length * (21 + sep.length) ≤ 1000000 * 1021 := Nat.mul_le_mul hl (by omega)
  rw [Join_at _ sep (by rw [List.length_map]; omega) (by omega)]
  exact Big.some_ _
 | succ d ih =>
  intro i hi
  have hlt : i < l.length := by omega
  have hx : rde l (i : Int) = l[i] := by rw [rd_nat, List.getD_eq_getElem?_getD, List.getElem?_eq_getElem hlt]; rfl
  refine Big.succ ?_
  unfold impl_joined.l0
  refine Big.pos (by omega) ?_
  refine Big.pos (by omega) ?_
  refine Big.pos (by omega) ?_
  rw [hx, Itoa_at _ (hw _ (List.getElem_mem hlt)), w64n (by omega)]
  refine Big.pos (by rw [List.length_map, List.length_take]; omega) ?_
  have e : ((l.take i).map Go.Lib.itoa) ++ [(Go.Lib.itoa l[i])] = ((l.take (i + 1)).map Go.Lib.itoa) := by
   rw [List.take_succ_eq_append_getElem hlt, List.map_append]
   rfl
  rw [e]
  exact ih (i + 1) (by omega)
theorem joined_at (l : List Int) (hw : ∀ x ∈ l, -9223372036854775808 ≤ x ∧ x ≤ 9223372036854775807) (hl : l.length ≤ 1000000) (sep : List UInt8) (hs : sep.length ≤ 1000) : Big (fun k => impl_joined.f k l (sep)) ((Go.Lib.join (l.map Go.Lib.itoa) sep)) :=
 joined_l l hw hl sep hs l.length 0 (by omega)
end Go.Proofs.YtecdijlfnnminaaGreatDoor.Q
set_option linter.all false
namespace Go.Proofs.YtecdijlfnnminaaGreatDoor.Q
open Go.RowKit Go Go.Proofs.YtecdijlfnnminaaGreatDoor.Eng Go.Proofs.YtecdijlfnnminaaGreatDoor Go.Proofs.YtecdijlfnnminaaGreatDoor.Y
set_option linter.unusedSimpArgs false

/-- A clue's numbers are small. -/
def clueSmall (c : (Int × Int × Int)) : Prop := (0 ≤ c.1 ∧ c.1 ≤ 6) ∧ (0 ≤ c.2.1 ∧ c.2.1 ≤ 9) ∧ 0 ≤ c.2.2 ∧ c.2.2 ≤ 2000
theorem clue_small {p : Int} (hp : 2 ≤ p ∧ p ≤ 3) {c : (Int × Int × Int)} (h : clueB p c.1 c.2.1 c.2.2 = true) : clueSmall c := by
 unfold clueB at h
 unfold clueSmall
 rw [Bool.and_eq_true, inR_iff] at h
 obtain ⟨h1, h2⟩ := h
 split at h2
 ·rw [beq_iff_eq] at h2
  omega
 ·split at h2
  ·rw [inR_iff] at h2
   omega
  ·split at h2
   ·rw [Bool.and_eq_true, inR_iff] at h2
    omega
   ·split at h2
    ·rw [Bool.and_eq_true, inR_iff] at h2
     omega
    ·cases h2
theorem puz_iff {p : Int} {l : List (Int × Int × Int)} (h : puz p l = true) : (2 ≤ p ∧ p ≤ 3) ∧ l.length ≤ 6 ∧ ∀ c ∈ l, clueSmall c := by
 unfold puz at h
 rw [Bool.and_eq_true, Bool.and_eq_true, inR_iff, decide_eq_true_iff, List.all_eq_true] at h
 exact ⟨h.1, h.2.1, fun c hc => clue_small h.1 (h.2.2 c hc)⟩
/-- A clue's text, as bytes. -/
def cL (c : (Int × Int × Int)) : List UInt8 := Go.Lib.itoa c.1 ++ [46] ++ Go.Lib.itoa c.2.1 ++ [46] ++ Go.Lib.itoa c.2.2
/-- A puzzle's text. -/
def puzText (p : Int) (l : List (Int × Int × Int)) : List UInt8 := Go.Lib.itoa p ++ [97] ++ Go.Lib.join (l.map cL) [44]
theorem cL_len {c : (Int × Int × Int)} (h : clueSmall c) : (cL c).length ≤ 14 := by
 obtain ⟨a, b, d⟩ := h
 have h0 := (num_at c.1 (by omega)).2
 have h1 := (num_at c.2.1 (by omega)).2
 have h2 := (num_at c.2.2 (by omega)).2
 unfold cL
 simp only [List.length_append, List.length_singleton]
 omega
theorem pzText_l (hd : List UInt8) (l : List ((Int × Int × Int))) (hl : l.length ≤ 6) (hb : ∀ x ∈ l, clueSmall x) (d : Nat) : ∀ (i : Nat) (acc : List UInt8), i + d = l.length → acc = hd ++ Go.Lib.join ((l.take i).map cL) [44] → acc.length ≤ 10 + 20 * i → Big (fun k => spec_pzText.l0 k acc l (l.length : Int) i) ((hd ++ Go.Lib.join (l.map cL) [44])) := by
 induction d with
 | zero =>
  intro i acc hi ha _
  refine Big.succ ?_
  unfold spec_pzText.l0
  refine Big.neg (by omega) ?_
  rw [ha, List.take_of_length_le (show l.length ≤ i by omega)]
  exact Big.some_ _
 | succ d ih =>
  intro i acc hi ha hs
  have hlt : i < l.length := by omega
  have er : rde l (i : Int) = l[i] := rdT_nat l i hlt
  obtain ⟨a0, a1, a2⟩ := hb _ (List.getElem_mem hlt)
  obtain ⟨hn0, hlen0⟩ := num_at (l[i]).1 (by omega)
  obtain ⟨hn1, hlen1⟩ := num_at (l[i]).2.1 (by omega)
  obtain ⟨hn2, hlen2⟩ := num_at (l[i]).2.2 (by omega)
  have hcl := cL_len (hb _ (List.getElem_mem hlt))
  have hsnoc : (l.take (i + 1)).map cL = (l.take i).map cL ++ [cL l[i]] := by
   rw [List.take_succ_eq_append_getElem hlt, List.map_append]
   rfl
  refine Big.succ ?_
  unfold spec_pzText.l0
  rw [er, w64n (show i < 9223372036854775807 by omega), ]
  refine Big.pos (by omega) ?_
  refine Big.pos (by omega) ?_
  refine Big.pos (by omega) ?_
  by_cases hi0 : i = 0
  ·subst hi0
   refine Big.neg (by omega) ?_
   refine Big.bind hn0 ?_
   refine Big.pos (by first | omega | (simp only [List.length_append, List.length_singleton]; omega)) ?_
   refine Big.bind hn1 ?_
   refine Big.pos (by first | omega | (simp only [List.length_append, List.length_singleton]; omega)) ?_
   refine Big.pos (by first | omega | (simp only [List.length_append, List.length_singleton]; omega)) ?_
   refine Big.bind hn2 ?_
   refine Big.pos (by first | omega | (simp only [List.length_append, List.length_singleton]; omega)) ?_
   refine Big.pos (by first | omega | (simp only [List.length_append, List.length_singleton]; omega)) ?_
   have e0 : acc ++ cL l[0] = hd ++ Go.Lib.join ((l.take (0 + 1)).map cL) [44] := by
    rw [hsnoc, ha]
    simp [Go.Lib.join_nil, Go.Lib.join_one]
   exact ih (0 + 1) _ (by omega) e0 (by first | omega | (simp only [List.length_append, List.length_singleton]; omega))
  ·refine Big.pos (by omega) ?_
   refine Big.pos (by first | omega | (simp only [List.length_append, List.length_singleton]; omega)) ?_
   refine Big.bind hn0 ?_
   refine Big.pos (by first | omega | (simp only [List.length_append, List.length_singleton]; omega)) ?_
   refine Big.bind hn1 ?_
   refine Big.pos (by first | omega | (simp only [List.length_append, List.length_singleton]; omega)) ?_
   refine Big.pos (by first | omega | (simp only [List.length_append, List.length_singleton]; omega)) ?_
   refine Big.bind hn2 ?_
   refine Big.pos (by first | omega | (simp only [List.length_append, List.length_singleton]; omega)) ?_
   refine Big.pos (by first | omega | (simp only [List.length_append, List.length_singleton]; omega)) ?_
   have hne : (l.take i).map cL ≠ [] := by
    intro hh
    have := congrArg List.length hh
    rw [List.length_map, List.length_take, List.length_nil] at this
    omega
   have e0 : acc ++ [44] ++ cL l[i] = hd ++ Go.Lib.join ((l.take (i + 1)).map cL) [44] := by
    rw [hsnoc, join_snoc _ _ _ hne, ha]
    simp only [List.append_assoc]
   exact ih (i + 1) _ (by omega) e0 (by first | omega | (simp only [List.length_append, List.length_singleton]; omega))
theorem pzText_at {p : Int} {l : List ((Int × Int × Int))} (h : puz p l = true) : Big (fun k => spec_pzText.f k (p, l)) ((puzText p l)) := by
 obtain ⟨hp, hl, hb⟩ := puz_iff h
 obtain ⟨hn, hlen⟩ := num_at p (by omega)
 unfold spec_pzText.f
 refine Big.bind hn ?_
 refine Big.pos (by first | omega | (simp only [List.length_append, List.length_singleton]; omega)) ?_
 exact pzText_l _ l hl hb l.length 0 _ (by omega) (by simp [Go.Lib.join_nil]) (by first | omega | (simp only [List.length_append, List.length_singleton]; omega))
theorem clue3 (c : (Int × Int × Int)) : Go.Lib.join ([c.1, c.2.1, c.2.2].map Go.Lib.itoa) [46] = cL c := by
 simp [Go.Lib.join_cons, Go.Lib.joinTail, cL]
theorem puzText_l (p : Int) (hp : 2 ≤ p ∧ p ≤ 3) (l : List ((Int × Int × Int))) (hl : l.length ≤ 6) (hb : ∀ x ∈ l, clueSmall x) (d : Nat) : ∀ i : Nat, i + d = l.length → Big (fun k => impl_Puzzle_text.l0 k (((l.take i).map cL)) l (l.length : Int) i p l) ((puzText p l)) := by
 induction d with
 | zero =>
  intro i hi
  have hj := join_len [44] 14 (l.map cL) (fun x hx => by
   obtain ⟨y, hy, rfl⟩ := List.mem_map.1 hx
   exact cL_len (hb y hy))
  rw [List.length_map, List.length_singleton] at hj
  have hn := (num_at p (by omega)).2
  refine Big.succ ?_
  unfold impl_Puzzle_text.l0 impl_textOf.f
  refine Big.neg (by omega) ?_
  rw [Itoa_at p (by omega), List.take_of_length_le (show l.length ≤ i by omega), Join_at _ _ (by rw [List.length_map]; omega) (by omega)]
  refine Big.pos (by first | omega | (simp only [List.length_append, List.length_singleton]; omega)) ?_
  refine Big.pos (by first | omega | (simp only [List.length_append, List.length_singleton]; omega)) ?_
  exact Big.some_ _
 | succ d ih =>
  intro i hi
  have hlt : i < l.length := by omega
  have er : rde l (i : Int) = l[i] := rdT_nat l i hlt
  obtain ⟨a0, a1, a2⟩ := hb _ (List.getElem_mem hlt)
  have hj := joined_at [(l[i]).1, (l[i]).2.1, (l[i]).2.2] (fun x hx => by
   simp only [List.mem_cons, List.mem_nil_iff, or_false] at hx
   rcases hx with rfl | rfl | rfl <;> omega) (by simp) [46] (by simp)
  rw [clue3] at hj
  refine Big.succ ?_
  unfold impl_Puzzle_text.l0
  rw [er, w64n (show i < 9223372036854775807 by omega), ]
  refine Big.pos (by omega) ?_
  refine Big.pos (by omega) ?_
  refine Big.pos (by omega) ?_
  refine Big.bind hj ?_
  refine Big.pos (by rw [List.length_map, List.length_take]; omega) ?_
  have e : ((l.take i).map cL) ++ [(cL l[i])] = ((l.take (i + 1)).map cL) := by
   rw [List.take_succ_eq_append_getElem hlt, List.map_append]
   rfl
  rw [e]
  exact ih (i + 1) (by omega)
theorem puzText_at {p : Int} {l : List ((Int × Int × Int))} (h : puz p l = true) : Big (fun k => impl_Puzzle_text.f k (p, l)) ((puzText p l)) := by
 obtain ⟨hp, hl, hb⟩ := puz_iff h
 exact puzText_l p hp l hl hb l.length 0 (by omega)
end Go.Proofs.YtecdijlfnnminaaGreatDoor.Q
set_option linter.all false
namespace Go.Proofs.YtecdijlfnnminaaGreatDoor.Q
open Go.RowKit

/-- A text, split at each byte c. -/
def sp (c : UInt8) : List UInt8 → List (List UInt8)
 | [] => [[]]
 | b :: l => if b = c then [] :: sp c l else ((b :: (sp c l).headD []) :: (sp c l).tail)
theorem sp_miss {c : UInt8} : ∀ {l : List UInt8}, c ∉ l → sp c l = [l]
 | [], _ => rfl
 | b :: l, h => by
  have h1 : ¬ b = c := fun e => h (e ▸ List.mem_cons_self)
  have h2 := sp_miss (c := c) (l := l) (fun e => h (List.mem_cons_of_mem _ e))
  rw [sp, if_neg h1, h2]
  rfl
theorem sp_hit {c : UInt8} (v : List UInt8) : ∀ {u : List UInt8}, c ∉ u → sp c (u ++ c :: v) = u :: sp c v
 | [], _ => by rw [List.nil_append, sp, if_pos rfl]
 | b :: u, h => by
  have h1 : ¬ b = c := fun e => h (e ▸ List.mem_cons_self)
  have h2 := sp_hit (c := c) v (u := u) (fun e => h (List.mem_cons_of_mem _ e))
  rw [List.cons_append, sp, if_neg h1, h2]
  rfl
theorem sp_ne (c : UInt8) : ∀ l : List UInt8, sp c l ≠ []
 | [] => by simp [sp]
 | b :: l => by
  rw [sp]
  split <;> simp
theorem sp_len (c : UInt8) : ∀ l : List UInt8, (sp c l).length ≤ l.length + 1
 | [] => by simp [sp]
 | b :: l => by
  have ih := sp_len c l
  have hn := sp_ne c l
  rw [sp]
  split
  ·simp only [List.length_cons]
   omega
  ·cases h : sp c l with
   | nil => exact absurd h hn
   | cons x r =>
    rw [h] at ih
    simp only [List.length_cons, List.tail_cons] at ih ⊢
    omega
theorem sp_word (c : UInt8) : ∀ (l w : List UInt8), w ∈ sp c l → w.length ≤ l.length
 | [], w, h => by
  simp [sp] at h
  simp [h]
 | b :: l, w, h => by
  have ih := sp_word c l
  rw [sp] at h
  split at h
  ·rcases List.mem_cons.1 h with rfl | h
   ·simp
   ·have := ih w h
    simp only [List.length_cons]
    omega
  ·cases hs : sp c l with
   | nil => exact absurd hs (sp_ne c l)
   | cons x r =>
    rw [hs] at h ih
    rcases List.mem_cons.1 h with rfl | h
    ·have := ih x List.mem_cons_self
     simp only [List.headD_cons, List.length_cons]
     omega
    ·have := ih w (List.mem_cons_of_mem _ h)
     simp only [List.length_cons]
     omega
theorem at_or (c : UInt8) : ∀ l : List UInt8, c ∉ l ∨ ∃ u v, l = u ++ c :: v ∧ c ∉ u
 | [] => .inl (by simp)
 | b :: l => by
  by_cases e : b = c
  ·exact .inr ⟨[], l, by rw [e]; rfl, by simp⟩
  ·rcases at_or c l with h | ⟨u, v, h1, h2⟩
   ·exact .inl (by
     intro hm
     rcases List.mem_cons.1 hm with h3 | h3
     ·exact e h3.symm
     ·exact h h3)
   ·exact .inr ⟨b :: u, v, by rw [h1]; rfl, by
     intro hm
     rcases List.mem_cons.1 hm with h3 | h3
     ·exact e h3.symm
     ·exact h2 h3⟩
theorem join_two (x y : List UInt8) (r : List (List UInt8)) (sep : List UInt8) : Go.Lib.join (x :: y :: r) sep = x ++ sep ++ Go.Lib.join (y :: r) sep := by
 simp [Go.Lib.join_cons, Go.Lib.joinTail, List.append_assoc]
theorem sp_join (c : UInt8) : ∀ ws : List (List UInt8), ws ≠ [] → (∀ w ∈ ws, c ∉ w) → sp c (Go.Lib.join ws [c]) = ws
 | [], h, _ => absurd rfl h
 | [x], _, hw => by rw [Go.Lib.join_one, sp_miss (hw x List.mem_cons_self)]
 | x :: y :: r, _, hw => by
  rw [join_two, List.append_assoc, List.singleton_append, sp_hit _ (hw x List.mem_cons_self), sp_join c (y :: r) (by simp) (fun w h => hw w (List.mem_cons_of_mem _ h))]
theorem join_sp (c : UInt8) (n : Nat) : ∀ l : List UInt8, l.length ≤ n → Go.Lib.join (sp c l) [c] = l := by
 induction n with
 | zero =>
  intro l hl
  have : l = [] := List.length_eq_zero_iff.mp (by omega)
  subst this
  rfl
 | succ n ih =>
  intro l hl
  rcases at_or c l with h | ⟨u, v, rfl, hu⟩
  ·rw [sp_miss h, Go.Lib.join_one]
  ·rw [sp_hit v hu]
   have h2 := ih v (by simp only [List.length_append, List.length_cons] at hl; omega)
   cases hs : sp c v with
   | nil => exact absurd hs (sp_ne c v)
   | cons x r => rw [join_two, ← hs, h2, List.append_assoc, List.singleton_append]
theorem index_one (c : UInt8) : ∀ s : List UInt8, (c ∉ s ∧ Go.Lib.index s [c] = -1) ∨ ∃ u v, s = u ++ c :: v ∧ c ∉ u ∧ Go.Lib.index s [c] = (u.length : Int)
 | [] => .inl ⟨by simp, rfl⟩
 | b :: l => by
  by_cases e : b = c
  ·subst e
   exact .inr ⟨[], l, rfl, by simp, by simp [Go.Lib.index, List.isPrefixOf]⟩
  ·have hp : ([c] : List UInt8).isPrefixOf (b :: l) = false := by simp [List.isPrefixOf, Ne.symm e]
   have hix : Go.Lib.index (b :: l) [c] = if Go.Lib.index l [c] == -1 then -1 else Go.Lib.index l [c] + 1 := by rw [Go.Lib.index, hp]; simp
   rcases index_one c l with ⟨h1, h2⟩ | ⟨u, v, h1, h2, h3⟩
   ·refine .inl ⟨fun hm => ?_, by rw [hix, h2]; rfl⟩
    rcases List.mem_cons.1 hm with h4 | h4
    ·exact e h4.symm
    ·exact h1 h4
   ·refine .inr ⟨b :: u, v, by rw [h1]; rfl, fun hm => ?_, ?_⟩
    ·rcases List.mem_cons.1 hm with h4 | h4
     ·exact e h4.symm
     ·exact h2 h4
    ·rw [hix, h3, if_neg (by rw [beq_iff_eq]; omega), List.length_cons]
     omega
theorem splitK_sp (c : UInt8) : ∀ (k : Nat) (s : List UInt8), Go.Lib.count s [c] = k → Go.Lib.splitK [c] 0 k s = sp c s
 | 0, s, h => by
  rw [Go.Lib.count_one, List.count_eq_zero] at h
  rw [sp_miss h]
  rfl
 | k + 1, s, h => by
  rw [Go.Lib.count_one] at h
  rcases index_one c s with ⟨h1, _⟩ | ⟨u, v, rfl, hu, hx⟩
  ·rw [List.count_eq_zero.2 h1] at h
   omega
  ·have hv : Go.Lib.count v [c] = k := by
    rw [Go.Lib.count_one]
    rw [List.count_append, List.count_eq_zero.2 hu, List.count_cons_self] at h
    omega
   have e1 : ((Go.Lib.index (u ++ c :: v) [c]).toNat) = u.length := by rw [hx]; omega
   rw [Go.Lib.splitK, if_neg (by rw [beq_iff_eq, hx]; omega), e1, sp_hit v hu, Nat.add_zero, List.take_left' rfl, List.length_singleton]
   have e2 : (u ++ c :: v).drop (u.length + 1) = v := by
    rw [List.drop_append, List.drop_eq_nil_of_le (by omega)]
    simp
   rw [e2, splitK_sp c k v hv]
theorem splitB_sp (s : List UInt8) (c : UInt8) : (Go.Lib.splitB ⟨[c].toArray⟩ 0 (Go.Lib.countB ⟨s.toArray⟩ ⟨[c].toArray⟩) ⟨s.toArray⟩).map (·.data.toList) = sp c s := by
 rw [Go.Lib.splitB_data]
 exact splitK_sp c _ _ rfl
end Go.Proofs.YtecdijlfnnminaaGreatDoor.Q
set_option linter.all false
namespace Go.Proofs.YtecdijlfnnminaaGreatDoor.Q
open Go.RowKit Go.Proofs.YtecdijlfnnminaaGreatDoor.Eng

/-- The value of digits behind a value. -/
def dv (acc : Nat) (l : List UInt8) : Nat := l.foldl (fun a b => a * 10 + (b.toNat - 48)) acc
theorem dig_nat (n : Nat) (h : n < 10) : (UInt8.ofNat (48 + n)).toNat = 48 + n := by
 rw [UInt8.toNat_ofNat']
 omega
theorem dd_all (n : Nat) : ∀ b ∈ Go.Lib.decDigits n, 48 ≤ b.toNat ∧ b.toNat ≤ 57 := by
 induction n using Nat.strongRecOn with
 | ind n ih =>
  intro b hb
  rw [Go.Lib.decDigits] at hb
  split at hb
  ·rename_i h
   rw [List.mem_singleton] at hb
   rw [hb, dig_nat n h]
   omega
  ·rw [List.mem_append, List.mem_singleton] at hb
   rcases hb with hb | hb
   ·exact ih (n / 10) (by omega) b hb
   ·rw [hb, dig_nat (n % 10) (by omega)]
    omega
theorem dd_val (n : Nat) : dv 0 (Go.Lib.decDigits n) = n := by
 induction n using Nat.strongRecOn with
 | ind n ih =>
  rw [Go.Lib.decDigits]
  split
  ·rename_i h
   simp only [dv, List.foldl_cons, List.foldl_nil, dig_nat n h]
   omega
  ·have h1 := ih (n / 10) (by omega)
   unfold dv at h1 ⊢
   rw [List.foldl_append, h1]
   simp only [List.foldl_cons, List.foldl_nil, dig_nat (n % 10) (by omega)]
   omega
theorem dd_head (n : Nat) : ∃ b l, Go.Lib.decDigits n = b :: l ∧ (b = 48 → n = 0) := by
 induction n using Nat.strongRecOn with
 | ind n ih =>
  rw [Go.Lib.decDigits]
  split
  ·rename_i h
   refine ⟨_, [], rfl, fun e => ?_⟩
   have h1 := congrArg UInt8.toNat e
   rw [dig_nat n h] at h1
   have : (48 : UInt8).toNat = 48 := rfl
   omega
  ·rename_i h
   obtain ⟨b, l, h1, h2⟩ := ih (n / 10) (by omega)
   rw [h1]
   refine ⟨b, l ++ [UInt8.ofNat (48 + n % 10)], rfl, fun e => ?_⟩
   have := h2 e
   omega
theorem dd_zero : Go.Lib.decDigits 0 = [48] := by
 rw [Go.Lib.decDigits]
 rfl
theorem no_comma (x : Int) (h : 0 ≤ x) (c : UInt8) (hc : c.toNat < 48 ∨ 57 < c.toNat) : c ∉ Go.Lib.itoa x := by
 intro hm
 unfold Go.Lib.itoa at hm
 rw [if_neg (by omega)] at hm
 have := dd_all _ c hm
 omega
theorem parse_at : ∀ (l : List UInt8) (acc m : Nat), acc < 10 ^ m → m + l.length ≤ 18 → (∀ b ∈ l, 48 ≤ b.toNat ∧ b.toNat ≤ 57) → Go.Lib.parseUint10 acc l = .ok (dv acc l)
 | [], _, _, _, _, _ => rfl
 | b :: l, acc, m, ha, hm, hb => by
  have h1 := hb b List.mem_cons_self
  rw [List.length_cons] at hm
  have hp : 10 ^ m ≤ 10 ^ 17 := Nat.pow_le_pow_right (by omega) (by omega)
  have ha2 : acc * 10 + (b.toNat - 48) < 10 ^ (m + 1) := by
   rw [Nat.pow_succ]
   omega
  rw [Go.Lib.parseUint10, if_pos h1, if_neg (by omega), if_neg (by omega), parse_at l _ (m + 1) ha2 (by omega) (fun b h => hb b (List.mem_cons_of_mem _ h))]
  rfl
theorem atoi_itoa (x : Int) (h : 0 ≤ x ∧ x ≤ 999999) : Go.Lib.atoiAll (Go.Lib.itoa x) = .ok x := by
 obtain ⟨n, rfl⟩ : ∃ n : Nat, x = (n : Int) := ⟨x.toNat, by omega⟩
 have hl := Go.Lib.itoa_length_le (n : Int) (by omega) (by omega)
 have hd : Go.Lib.itoa (n : Int) = Go.Lib.decDigits n := by
  unfold Go.Lib.itoa
  rw [if_neg (by omega), Int.toNat_natCast]
 rw [hd]
 have hlen : (Go.Lib.decDigits n).length ≤ 6 := by
  have : ∀ d n : Nat, n < 10 ^ d → 1 ≤ d → (Go.Lib.decDigits n).length ≤ d := by
   intro d
   induction d with
   | zero =>
    intro n _ h
    omega
   | succ d ih =>
    intro n hn _
    rw [Go.Lib.decDigits]
    split
    ·simp
    ·have h10 : n / 10 < 10 ^ d := by
      rw [Nat.pow_succ] at hn
      omega
     have hd : 1 ≤ d := by
      rcases Nat.eq_zero_or_pos d with h0 | h0
      ·subst h0
       omega
      ·exact h0
     have := ih (n / 10) h10 hd
     rw [List.length_append, List.length_singleton]
     omega
  exact this 6 n (by omega) (by omega)
 obtain ⟨b, l, e, _⟩ := dd_head n
 have hb := dd_all n b (by rw [e]; exact List.mem_cons_self)
 have hp := parse_at (Go.Lib.decDigits n) 0 0 (by omega) (by omega) (dd_all n)
 rw [dd_val] at hp
 rw [e] at hp ⊢
 rw [Go.Lib.atoiAll_plain b l (by omega) (by omega), Go.Lib.parseMag, if_neg (by simp), hp, Go.Lib.signless, if_neg (by omega)]
theorem bt_list (a : List UInt8) (i : Nat) (h : i < a.length) : ((rde a (i : Int)).toNat : Int) = ((a[i]).toNat : Int) := by
 unfold rde
 rw [Int.toNat_natCast, List.getD_eq_getElem?_getD, List.getElem?_eq_getElem h, Option.getD_some]
end Go.Proofs.YtecdijlfnnminaaGreatDoor.Q
set_option linter.all false
namespace Go.Proofs.YtecdijlfnnminaaGreatDoor.Q
open Go.RowKit Go Go.Proofs.YtecdijlfnnminaaGreatDoor.Eng Go.Proofs.YtecdijlfnnminaaGreatDoor Go.Proofs.YtecdijlfnnminaaGreatDoor.Y
set_option linter.unusedSimpArgs false

theorem u8_64 (x : Int) : IntKind.i64.wrap (IntKind.u8.wrap x) = x % 256 := by
 have : IntKind.u8.wrap x = x % 256 := rfl
 rw [this]
 exact w64 (by omega) (by omega)
theorem l1Split_l (a : (List UInt8)) (hs : a.length ≤ 1048576) (c : UInt8) (d : Nat) : ∀ (i f : Nat) (out : List (List UInt8)), i + d = a.length → f ≤ i → c ∉ (a.drop f).take (i - f) → out.length ≤ i → Big (fun k => spec_l1Split.l0 k a (c.toNat : Int) out f i) (out ++ (sp c (a.drop f))) := by
 have hlen : a.length = a.length := rfl
 induction d with
 | zero =>
  intro i f out hi hf hc ho
  refine Big.succ ?_
  unfold spec_l1Split.l0
  refine Big.neg (by omega) ?_
  refine Big.pos (by omega) ?_
  refine Big.pos (by omega) ?_
  refine Big.pos (by omega) ?_
  rw [List.take_of_length_le (by rw [List.length_drop]; omega)] at hc
  have e : a.drop ((f : Int).toNat) = (a.drop f) := by
   rw [Int.toNat_natCast]
  rw [sp_miss hc, e]
  exact Big.some_ _
 | succ d ih =>
  intro i f out hi hf hc ho
  have hlt : i < a.length := by omega
  have hdrop : a.drop f = (a.drop f).take (i - f) ++ a[i] :: a.drop (i + 1) := by
   have h1 := (List.take_append_drop (i - f) (a.drop f)).symm
   rw [List.drop_drop, show f + (i - f) = i by omega, List.drop_eq_getElem_cons hlt] at h1
   exact h1
  refine Big.succ ?_
  unfold spec_l1Split.l0
  rw [bt_list a i hlt, w64n (by omega)]
  refine Big.pos (by omega) ?_
  refine Big.pos (by omega) ?_
  by_cases hb : a[i] = c
  ·refine Big.pos (by rw [hb]) ?_
   refine Big.pos (by omega) ?_
   refine Big.pos (by omega) ?_
   refine Big.pos (by omega) ?_
   refine Big.pos (by omega) ?_
   have e : (a.take ((i : Int).toNat)).drop ((f : Int).toNat) = ((a.drop f).take (i - f)) := by
    rw [Int.toNat_natCast, Int.toNat_natCast, List.drop_take]
   have e2 : out ++ (sp c (a.drop f)) = (out ++ [((a.drop f).take (i - f))]) ++ (sp c (a.drop (i + 1))) := by
    conv => lhs; rw [hdrop, hb, sp_hit _ hc]
    simp
   rw [e, e2]
   exact ih (i + 1) (i + 1) _ (by omega) (Nat.le_refl _) (by simp) (by rw [List.length_append, List.length_singleton]; omega)
  ·refine Big.neg (fun h => hb (UInt8.toNat_inj.mp (by omega))) ?_
   refine ih (i + 1) f out (by omega) (by omega) ?_ (by omega)
   rw [show i + 1 - f = (i - f) + 1 by omega, List.take_succ_eq_append_getElem (by rw [List.length_drop]; omega), List.mem_append, List.mem_singleton]
   rintro (h | h)
   ·exact hc h
   ·apply hb
    rw [h, List.getElem_drop]
    congr 1
    omega
theorem l1Split_at (a : (List UInt8)) (hs : a.length ≤ 1048576) (c : UInt8) : Big (fun k => spec_l1Split.f k a (c.toNat : Int)) ((sp c a)) :=
 l1Split_l a hs c a.length 0 0 [] (by omega) (Nat.le_refl _) (by simp) (by simp)
theorem l1Read_l (a : (List UInt8)) (hs : a.length ≤ 6) (t : List UInt8) : ∀ i acc : Nat, a.drop i = t → i ≤ a.length → acc < 10 ^ i → (∀ b ∈ t, 48 ≤ b.toNat ∧ b.toNat ≤ 57) → Big (fun k => spec_l1Read.l0 k a (acc : Int) (i : Int)) (dv acc t : Int) := by
 have hlen : a.length = a.length := rfl
 induction t with
 | nil =>
  intro i acc hd hi ha _
  rw [List.drop_eq_nil_iff] at hd
  refine Big.succ ?_
  unfold spec_l1Read.l0
  refine Big.neg (by omega) ?_
  exact Big.some_ _
 | cons b t ih =>
  intro i acc hd hi ha hb
  have hlt : i < a.length := by
   rcases Nat.lt_or_ge i a.length with h | h
   ·exact h
   ·rw [List.drop_eq_nil_of_le h] at hd
    cases hd
  rw [List.drop_eq_getElem_cons hlt] at hd
  injection hd with h1 h2
  have hbb := hb b List.mem_cons_self
  have hp : 10 ^ i ≤ 10 ^ 6 := Nat.pow_le_pow_right (by omega) (by omega)
  refine Big.succ ?_
  unfold spec_l1Read.l0
  rw [bt_list a i hlt, h1, w64n (by omega)]
  refine Big.pos (by omega) ?_
  refine Big.pos (by omega) ?_
  refine Big.neg (by omega) ?_
  refine Big.neg (by omega) ?_
  have e : IntKind.i64.wrap (IntKind.i64.wrap (10 * (acc : Int)) + ((b.toNat : Int) - 48) % 256) = ((acc * 10 + (b.toNat - 48) : Nat) : Int) := by
   rw [w64 (i := 10 * (acc : Int)) (by omega) (by omega), w64 (by omega) (by omega)]
   omega
  rw [u8_64, e]
  exact ih (i + 1) _ h2 (by omega) (by rw [Nat.pow_succ]; omega) (fun b h => hb b (List.mem_cons_of_mem _ h))
theorem l1Read_end (a : (List UInt8)) (hs : a.length ≤ 6) (d : Nat) : ∀ (i : Nat) (acc : Int), i + d = a.length → ∃ v, Big (fun k => spec_l1Read.l0 k a acc (i : Int)) v := by
 induction d with
 | zero =>
  intro i acc hi
  refine ⟨acc, Big.succ ?_⟩
  unfold spec_l1Read.l0
  exact Big.neg (by omega) (Big.some_ _)
 | succ d ih =>
  intro i acc hi
  by_cases h1 : ((rde a (i : Int)).toNat : Int) < 48
  ·refine ⟨-1, Big.succ ?_⟩
   unfold spec_l1Read.l0
   exact Big.pos (by omega) (Big.pos (by omega) (Big.pos h1 (Big.some_ _)))
  ·by_cases h2 : ((rde a (i : Int)).toNat : Int) > 57
   ·refine ⟨-1, Big.succ ?_⟩
    unfold spec_l1Read.l0
    exact Big.pos (by omega) (Big.pos (by omega) (Big.neg h1 (Big.pos h2 (Big.some_ _))))
   ·obtain ⟨v, hv⟩ := ih (i + 1) (IntKind.i64.wrap (IntKind.i64.wrap (10 * acc) + (((rde a (i : Int)).toNat : Int) - 48) % 256)) (by omega)
    refine ⟨v, Big.succ ?_⟩
    unfold spec_l1Read.l0
    rw [w64n (by omega), u8_64]
    exact Big.pos (by omega) (Big.pos (by omega) (Big.neg h1 (Big.neg h2 hv)))
theorem l1Read_j (a : (List UInt8)) (hs : a.length ≤ 6) (b : Bool) : ∃ v, Big (fun k => spec_l1Read.j0 k a b) v := by
 cases b
 ·obtain ⟨v, hv⟩ := l1Read_end a hs a.length 0 0 (by omega)
  refine ⟨v, Big.succ ?_⟩
  unfold spec_l1Read.j0
  exact Big.neg (by decide) hv
 ·refine ⟨-1, Big.succ ?_⟩
  unfold spec_l1Read.j0
  exact Big.pos rfl (Big.some_ _)
theorem l1Read_tot (a : (List UInt8)) : ∃ v, Big (fun k => spec_l1Read.f k a) v := by
 unfold spec_l1Read.f
 simp only [v_l1In, Option.bind_some]
 cases h : inR (a.length : Int) 1 6
 ·refine ⟨-1, Big.neg (by decide) (Big.succ ?_)⟩
  unfold spec_l1Read.j0
  exact Big.pos rfl (Big.some_ _)
 ·rw [inR_iff] at h
  by_cases h0 : ((rde a 0).toNat : Int) = 48
  ·obtain ⟨v, hv⟩ := l1Read_j a (by omega) (decide ((a.length : Int) > 1))
   exact ⟨v, Big.pos rfl (Big.pos (by omega) (Big.pos h0 hv))⟩
  ·obtain ⟨v, hv⟩ := l1Read_j a (by omega) false
   exact ⟨v, Big.pos rfl (Big.pos (by omega) (Big.neg h0 hv))⟩
theorem l1Read_at (x : Int) (h : 0 ≤ x ∧ x ≤ 9999) : Big (fun k => spec_l1Read.f k ((Go.Lib.itoa x))) x := by
 have hl4 := (num_at x h).2
 obtain ⟨n, rfl⟩ : ∃ n : Nat, x = (n : Int) := ⟨x.toNat, by omega⟩
 have hd : Go.Lib.itoa (n : Int) = Go.Lib.decDigits n := by
  unfold Go.Lib.itoa
  rw [if_neg (by omega), Int.toNat_natCast]
 rw [hd] at hl4 ⊢
 obtain ⟨b, l, e, hz⟩ := dd_head n
 have hpos : 1 ≤ (Go.Lib.decDigits n).length := by
  rw [e, List.length_cons]
  omega
 have hsz : ((Go.Lib.decDigits n)).length = (Go.Lib.decDigits n).length := rfl
 have hL := l1Read_l ((Go.Lib.decDigits n)) (by omega) (Go.Lib.decDigits n) 0 0 rfl (by omega) (by omega) (dd_all n)
 rw [dd_val] at hL
 have hj : Big (fun k => spec_l1Read.j0 k ((Go.Lib.decDigits n)) false) (n : Int) := by
  refine Big.succ ?_
  unfold spec_l1Read.j0
  exact Big.neg (by decide) hL
 unfold spec_l1Read.f
 simp only [v_l1In, Option.bind_some, inR_iff.mpr (show (1 : Int) ≤ (((Go.Lib.decDigits n)).length : Int) ∧ (((Go.Lib.decDigits n)).length : Int) ≤ 6 by omega)]
 refine Big.pos trivial (Big.pos (by omega) ?_)
 have hb0 : ((rde (Go.Lib.decDigits n) 0).toNat : Int) = (b.toNat : Int) := by
  have := bt_list ((Go.Lib.decDigits n)) 0 (by omega)
  simp only [e, List.getElem_cons_zero] at this
  rw [e]
  exact this
 by_cases hb : b = 48
 ·have h0 := hz hb
  subst h0
  refine Big.pos (by rw [hb0, hb]; rfl) ?_
  have e1 : decide ((((Go.Lib.decDigits 0)).length : Int) > 1) = false := decide_eq_false (by rw [dd_zero, List.length_singleton]; omega)
  rw [e1]
  exact hj
 ·refine Big.neg (fun h => hb (UInt8.toNat_inj.mp ?_)) hj
  have : (48 : UInt8).toNat = 48 := rfl
  omega
end Go.Proofs.YtecdijlfnnminaaGreatDoor.Q
set_option linter.all false
namespace Go.Proofs.YtecdijlfnnminaaGreatDoor.Q
open Go.RowKit Go Go.Proofs.YtecdijlfnnminaaGreatDoor.Eng Go.Proofs.YtecdijlfnnminaaGreatDoor Go.Proofs.YtecdijlfnnminaaGreatDoor.Y
set_option linter.unusedSimpArgs false

theorem Split_at (s : (List UInt8)) (c : UInt8) (hs : s.length < 4294967281) : S.strings_Split.f s ([c]) = some ((sp c s)) := by
 unfold S.strings_Split.f
 rw [if_pos ⟨hs, by simp⟩, splitB_sp]
theorem word_at (x : Int) (h : 0 ≤ x ∧ x ≤ 999999) : S.readWord ((Go.Lib.itoa x)) = (x, true) := by
 unfold S.readWord
 rw [atoi_itoa x h]
 show (x, Go.Lib.itoa x == Go.Lib.itoa x) = _
 rw [beq_self_eq_true]
theorem word_of (w : (List UInt8)) (h : (S.readWord w).2 = true) : w = Go.Lib.itoa (S.readWord w).1 := by
 unfold S.readWord at h ⊢
 cases hA : Go.Lib.atoiAll w with
 | ok v =>
  rw [hA] at h
  have h1 : (Go.Lib.itoa v == w) = true := h
  rw [beq_iff_eq] at h1
  show w = Go.Lib.itoa v
  rw [← h1]
 | range => rw [hA] at h; cases h
 | _ => rw [hA] at h; cases h
/-- What readNumbers answers. -/
def numsOut (W : List (List UInt8)) : List Int × Bool := if W.all (fun w => (S.readWord w).2) = true then (W.map (fun w => (S.readWord w).1), true) else ([], false)
theorem readNumbers_l (W : List (List UInt8)) (hw : ∀ w ∈ W, w.length ≤ 281474976710656) (hl : W.length ≤ 2000000) (d : Nat) : ∀ i : Nat, i + d = W.length → (W.take i).all (fun w => (S.readWord w).2) = true → Big (fun k => impl_readNumbers.l0 k ((W.take i).map fun w => (S.readWord w).1) W (W.length : Int) i) (numsOut W) := by
 induction d with
 | zero =>
  intro i hi hb
  rw [List.take_of_length_le (show W.length ≤ i by omega)] at hb ⊢
  refine Big.succ ?_
  unfold impl_readNumbers.l0 numsOut
  rw [if_pos hb]
  exact Big.neg (by omega) (Big.some_ _)
 | succ d ih =>
  intro i hi hb
  have hlt : i < W.length := by omega
  have er : rde W (i : Int) = W[i] := by
   unfold rde
   rw [Int.toNat_natCast, List.getD_eq_getElem?_getD, List.getElem?_eq_getElem hlt, Option.getD_some]
  have hall : (W.take (i + 1)).all (fun w => (S.readWord w).2) = (S.readWord W[i]).2 := by
   rw [List.take_succ_eq_append_getElem hlt, List.all_append, hb, Bool.true_and, List.all_cons, List.all_nil, Bool.and_true]
  refine Big.succ ?_
  unfold impl_readNumbers.l0 S.impl_readNumber.f
  rw [er, w64n (by omega), if_pos (hw _ (List.getElem_mem hlt))]
  refine Big.pos (by omega) ?_
  refine Big.pos (by omega) ?_
  refine Big.pos (by omega) ?_
  refine Big.bind (Big.some_ _) ?_
  cases hr : (S.readWord W[i]).2
  ·refine Big.neg (by decide) ?_
   have : ¬ W.all (fun w => (S.readWord w).2) = true := by
    intro h
    rw [List.all_eq_true] at h
    have := h _ (List.getElem_mem hlt)
    rw [hr] at this
    cases this
   unfold numsOut
   rw [if_neg this]
   exact Big.some_ _
  ·refine Big.pos rfl ?_
   refine Big.pos (by rw [List.length_map, List.length_take]; omega) ?_
   have e : (W.take i).map (fun w => (S.readWord w).1) ++ [(S.readWord W[i]).1] = (W.take (i + 1)).map fun w => (S.readWord w).1 := by
    rw [List.take_succ_eq_append_getElem hlt, List.map_append]
    rfl
   rw [e]
   exact ih (i + 1) (by omega) (by rw [hall, hr])
theorem readNumbers_at (s : (List UInt8)) (hs : s.length ≤ 1048576) (c : UInt8) : Big (fun k => impl_readNumbers.f k s ([c])) (numsOut ((sp c s))) := by
 have hlen : s.length = s.length := rfl
 have hl := sp_len c s
 unfold impl_readNumbers.f
 rw [Split_at s c (by omega)]
 refine Big.bind (Big.some_ _) ?_
 refine readNumbers_l ((sp c s)) (fun w hw => ?_) (by omega) _ 0 (Nat.zero_add _) rfl
 have := sp_word c _ w hw
 omega
/-- All words are numerals: then they are those of their numbers. -/
theorem nums_of (ws : List (List UInt8)) (h : (ws).all (fun w => (S.readWord w).2) = true) : ws = ((ws).map fun w => (S.readWord w).1).map Go.Lib.itoa := by
 induction ws with
 | nil => rfl
 | cons w ws ih =>
  rw [List.all_cons, Bool.and_eq_true] at h
  have h1 := word_of (w) h.1
  rw [List.map_cons, List.map_cons, ← ih h.2, ← h1]
theorem nums_itoa (vs : List Int) (h : ∀ x ∈ vs, 0 ≤ x ∧ x ≤ 999999) : numsOut ((vs.map Go.Lib.itoa)) = (vs, true) := by
 have e : ∀ vs : List Int, (∀ x ∈ vs, 0 ≤ x ∧ x ≤ 999999) → ((vs.map Go.Lib.itoa)).all (fun w => (S.readWord w).2) = true ∧ ((vs.map Go.Lib.itoa)).map (fun w => (S.readWord w).1) = vs := by
  intro vs
  induction vs with
  | nil => intro _; exact ⟨rfl, rfl⟩
  | cons v vs ih =>
   intro hv
   obtain ⟨h1, h2⟩ := ih fun x hx => hv x (List.mem_cons_of_mem _ hx)
   have h3 := word_at v (hv v List.mem_cons_self)
   exact ⟨by rw [List.map_cons, List.all_cons, h3, h1]; rfl, by rw [List.map_cons, List.map_cons, h3, h2]⟩
 unfold numsOut
 rw [if_pos (e vs h).1, (e vs h).2]
end Go.Proofs.YtecdijlfnnminaaGreatDoor.Q
set_option linter.all false
namespace Go.Proofs.YtecdijlfnnminaaGreatDoor.Q
open Go.RowKit Go Go.Proofs.YtecdijlfnnminaaGreatDoor.Eng Go.Proofs.YtecdijlfnnminaaGreatDoor Go.Proofs.YtecdijlfnnminaaGreatDoor.Y
set_option linter.unusedSimpArgs false

theorem cut_hit {c : UInt8} (u v : List UInt8) (h : c ∉ u) : Go.Lib.cut (u ++ c :: v) [c] = (u, v, true) := by
 rcases index_one c (u ++ c :: v) with ⟨h1, _⟩ | ⟨u', v', h1, h2, h3⟩
 ·exact absurd (List.mem_append_right u List.mem_cons_self) h1
 ·have e : sp c (u ++ c :: v) = sp c (u' ++ c :: v') := by rw [h1]
  rw [sp_hit v h, sp_hit v' h2] at e
  injection e with e1 _
  subst e1
  unfold Go.Lib.cut
  rw [h3, if_pos (by omega), Int.toNat_natCast, List.take_left' rfl, List.length_singleton]
  have e2 : (u ++ c :: v).drop (u.length + 1) = v := by
   rw [List.drop_append, List.drop_eq_nil_of_le (by omega)]
   simp
  rw [e2]
theorem cut_len (s sep : List UInt8) : (Go.Lib.cut s sep).1.length ≤ s.length ∧ (Go.Lib.cut s sep).2.1.length ≤ s.length := by
 unfold Go.Lib.cut
 split
 ·simp only [List.length_take, List.length_drop]
  omega
 ·simp
theorem one_dig (x : Int) (h : 0 ≤ x ∧ x ≤ 9) : (Go.Lib.itoa x).length = 1 := by
 obtain ⟨n, rfl⟩ : ∃ n : Nat, x = (n : Int) := ⟨x.toNat, by omega⟩
 unfold Go.Lib.itoa
 rw [if_neg (by omega), Int.toNat_natCast, Go.Lib.decDigits_one (by omega)]
 rfl
theorem cL_len8 {c : (Int × Int × Int)} (h : clueSmall c) : (cL c).length ≤ 8 := by
 obtain ⟨a, b, d⟩ := h
 have h0 := one_dig c.1 (by omega)
 have h1 := one_dig c.2.1 (by omega)
 have h2 := (num_at c.2.2 (by omega)).2
 unfold cL
 simp only [List.length_append, List.length_singleton]
 omega
theorem cL_ne (c : (Int × Int × Int)) : cL c ≠ [] := by
 unfold cL
 simp
theorem cL_sp {c : (Int × Int × Int)} (h : clueSmall c) : sp 46 (cL c) = [c.1, c.2.1, c.2.2].map Go.Lib.itoa := by
 obtain ⟨a, b, d⟩ := h
 rw [← clue3]
 refine sp_join 46 _ (by simp) (fun w hw => ?_)
 obtain ⟨x, hx, rfl⟩ := List.mem_map.1 hw
 simp only [List.mem_cons, List.mem_nil_iff, or_false] at hx
 exact no_comma x (by rcases hx with rfl | rfl | rfl <;> omega) 46 (.inl (by decide))
theorem cL_no {c : (Int × Int × Int)} (h : clueSmall c) (b : UInt8) (hb : b.toNat < 46 ∨ 57 < b.toNat) : b ∉ cL c := by
 obtain ⟨a0, a1, a2⟩ := h
 have n0 := no_comma c.1 a0.1 b (by omega)
 have n1 := no_comma c.2.1 a1.1 b (by omega)
 have n2 := no_comma c.2.2 a2.1 b (by omega)
 have n3 : b ≠ 46 := fun e => by
  have := congrArg UInt8.toNat e
  have h46 : (46 : UInt8).toNat = 46 := rfl
  omega
 unfold cL
 simp only [List.mem_append, List.mem_singleton]
 rintro ((((h | h) | h) | h) | h)
 ·exact n0 h
 ·exact n3 h
 ·exact n1 h
 ·exact n3 h
 ·exact n2 h
theorem join_no (c b : UInt8) (hcb : b ≠ c) : ∀ ws : List (List UInt8), (∀ w ∈ ws, b ∉ w) → b ∉ Go.Lib.join ws [c]
 | [], _ => by simp [Go.Lib.join_nil]
 | [x], h => by
  rw [Go.Lib.join_one]
  exact h x List.mem_cons_self
 | x :: y :: r, h => by
  have ih := join_no c b hcb (y :: r) fun w hw => h w (List.mem_cons_of_mem _ hw)
  have hx := h x List.mem_cons_self
  rw [join_two]
  simp only [List.mem_append, List.mem_singleton]
  rintro ((h1 | h1) | h1)
  ·exact hx h1
  ·exact hcb h1
  ·exact ih h1
/-- What a good puzzle's text is split into. -/
theorem puz_split {p : Int} {l : List (Int × Int × Int)} (h : puz p l = true) : sp 97 (puzText p l) = [Go.Lib.itoa p, Go.Lib.join (l.map cL) [44]] ∧ Go.Lib.cut (puzText p l) [97] = (Go.Lib.itoa p, Go.Lib.join (l.map cL) [44], true) ∧ (puzText p l).length ≤ 60 ∧ (l ≠ [] → sp 44 (Go.Lib.join (l.map cL) [44]) = l.map cL ∧ Go.Lib.join (l.map cL) [44] ≠ []) := by
 obtain ⟨hp, hl, hb⟩ := puz_iff h
 have hno : (97 : UInt8) ∉ Go.Lib.itoa p := no_comma p (by omega) 97 (.inr (by decide))
 have hno2 : (97 : UInt8) ∉ Go.Lib.join (l.map cL) [44] := join_no 44 97 (by decide) _ fun w hw => by
  obtain ⟨x, hx, rfl⟩ := List.mem_map.1 hw
  exact cL_no (hb x hx) 97 (.inr (by decide))
 have e : puzText p l = Go.Lib.itoa p ++ 97 :: Go.Lib.join (l.map cL) [44] := by
  unfold puzText
  rw [List.append_assoc, List.singleton_append]
 refine ⟨by rw [e, sp_hit _ hno, sp_miss hno2], by rw [e, cut_hit _ _ hno], ?_, fun hne => ⟨?_, ?_⟩⟩
 ·have h1 := join_len [44] 8 (l.map cL) (fun w hw => by
   obtain ⟨x, hx, rfl⟩ := List.mem_map.1 hw
   exact cL_len8 (hb x hx))
  have h2 := one_dig p (by omega)
  rw [List.length_map, List.length_singleton] at h1
  rw [e, List.length_append, List.length_cons]
  omega
 ·refine sp_join 44 _ (by simpa using hne) (fun w hw => ?_)
  obtain ⟨x, hx, rfl⟩ := List.mem_map.1 hw
  exact cL_no (hb x hx) 44 (.inl (by decide))
 ·cases l with
  | nil => exact absurd rfl hne
  | cons c r =>
   intro h0
   rw [List.map_cons, Go.Lib.join_cons] at h0
   exact cL_ne c (List.append_eq_nil_iff.1 h0).1
/-- What stands behind the reference's loop. -/
def pzEnd (a : List UInt8) (p : Int) (L : List (Int × Int × Int)) (k : Nat) : Option ((Int × List (Int × Int × Int)) × Bool) := (spec_pzGood.f k (p, L)).bind fun t157 => (if t157 = true then ((spec_pzText.f k (p, L)).bind fun t158 => (some ((p, L), (t158 == a)))) else (some ((p, L), false)))
theorem pzEnd_yes (a : List UInt8) (p : Int) (L : List (Int × Int × Int)) (h : puz p L = true) (ha : a = puzText p L) : Big (pzEnd a p L) ((p, L), true) := by
 unfold pzEnd
 refine Big.bind (pzGood_at p L) ?_
 rw [h]
 refine Big.pos rfl (Big.bind (pzText_at h) ?_)
 rw [ha, beq_self_eq_true]
 exact Big.some_ _
/-- The text is that of no puzzle. -/
def noPuz (a : List UInt8) : Prop := ∀ (p : Int) (L : List (Int × Int × Int)), puz p L = true → a ≠ puzText p L
theorem pzEnd_no (a : List UInt8) (hN : noPuz a) (p : Int) (L : List (Int × Int × Int)) : Big (pzEnd a p L) ((p, L), false) := by
 unfold pzEnd
 refine Big.bind (pzGood_at p L) ?_
 cases h : puz p L
 ·exact Big.neg (by decide) (Big.some_ _)
 ·refine Big.pos rfl (Big.bind (pzText_at h) ?_)
  have : (puzText p L == a) = false := by
   rw [beq_eq_false_iff_ne]
   exact fun e => hN p L h e.symm
  rw [this]
  exact Big.some_ _
theorem pzParse_yes (a : List UInt8) (p : Int) (l : List (Int × Int × Int)) (h : puz p l = true) (ha : a = puzText p l) (d : Nat) : ∀ i : Nat, i + d = l.length → Big (fun k => spec_pzParse.l0 k a ((l.map cL)) (((l.map cL)).length : Int) i 0 [] p (l.take i)) ((p, l), true) := by
 obtain ⟨hp, hl, hb⟩ := puz_iff h
 have hml : ((l.map cL)).length = l.length := by simp only [List.length_map]
 rw [hml]
 induction d with
 | zero =>
  intro i hi
  rw [List.take_of_length_le (show l.length ≤ i by omega)]
  refine Big.succ ?_
  unfold spec_pzParse.l0
  exact Big.neg (by omega) (pzEnd_yes a p l h ha)
 | succ d ih =>
  intro i hi
  have hlt : i < l.length := by omega
  have hc := hb _ (List.getElem_mem hlt)
  have er : rde ((l.map cL)) (i : Int) = (cL l[i]) := by
   rw [rde_nat _ i (by rw [List.length_map]; exact hlt), List.getElem_map]
  have hlen := cL_len8 hc
  have hS := l1Split_at ((cL l[i])) (by omega) 46
  rw [cL_sp hc] at hS
  obtain ⟨a0, a1, a2⟩ := hc
  refine Big.succ ?_
  unfold spec_pzParse.l0
  rw [er, w64n (by omega)]
  refine Big.pos (by omega) ?_
  refine Big.pos (by omega) ?_
  refine Big.pos (by rw [hml]; omega) ?_
  refine Big.bind hS ?_
  refine Big.pos rfl ?_
  refine Big.pos (by simp) ?_
  refine Big.bind (l1Read_at (l[i]).1 (by omega)) ?_
  refine Big.pos (by simp) ?_
  refine Big.bind (l1Read_at (l[i]).2.1 (by omega)) ?_
  refine Big.pos (by simp) ?_
  refine Big.bind (l1Read_at (l[i]).2.2 (by omega)) ?_
  refine Big.pos (by rw [List.length_take]; omega) ?_
  have e : l.take i ++ [(⟨(l[i]).1, (l[i]).2.1, (l[i]).2.2⟩ : (Int × Int × Int))] = l.take (i + 1) := by
   rw [List.take_succ_eq_append_getElem hlt]
  rw [e]
  exact ih (i + 1) (by omega)
theorem pzParse_no (a : List UInt8) (hN : noPuz a) (W : List (List UInt8)) (hl : W.length ≤ 1000) (hw : ∀ w ∈ W, w.length ≤ 1048576) (p : Int) (d : Nat) : ∀ (i : Nat) (L : List (Int × Int × Int)), i + d = W.length → L.length ≤ i → ∃ R : (Int × List (Int × Int × Int)) × Bool, R.2 = false ∧ Big (fun k => spec_pzParse.l0 k a (W) (W.length : Int) i 0 [] p L) R := by
 obtain ⟨g, hg⟩ := Classical.axiomOfChoice l1Read_tot
 induction d with
 | zero =>
  intro i L hi hL
  refine ⟨((p, L), false), rfl, Big.succ ?_⟩
  unfold spec_pzParse.l0
  exact Big.neg (by omega) (pzEnd_no a hN p L)
 | succ d ih =>
  intro i L hi hL
  have hlt : i < W.length := by omega
  have er : rde (W) (i : Int) = W[i] := rde_nat W i hlt
  have hS := l1Split_at (W[i]) (by exact hw _ (List.getElem_mem hlt)) 46
  by_cases h3 : (sp 46 W[i]).length = 3
  ·obtain ⟨R, hR, hB⟩ := ih (i + 1) (L ++ [(⟨g (rde ((sp 46 W[i])) 0), g (rde ((sp 46 W[i])) 1), g (rde ((sp 46 W[i])) 2)⟩ : (Int × Int × Int))]) (by omega) (by rw [List.length_append, List.length_singleton]; omega)
   refine ⟨R, hR, Big.succ ?_⟩
   unfold spec_pzParse.l0
   rw [er, w64n (by omega)]
   refine Big.pos (by omega) ?_
   refine Big.pos (by omega) ?_
   refine Big.pos (by omega) ?_
   refine Big.bind hS ?_
   refine Big.pos (by rw [h3]; rfl) ?_
   refine Big.pos (by rw [h3]; decide) ?_
   refine Big.bind (hg _) ?_
   refine Big.pos (by rw [h3]; decide) ?_
   refine Big.bind (hg _) ?_
   refine Big.pos (by rw [h3]; decide) ?_
   refine Big.bind (hg _) ?_
   refine Big.pos (by omega) ?_
   exact hB
  ·refine ⟨((0, []), false), rfl, Big.succ ?_⟩
   unfold spec_pzParse.l0
   rw [er, w64n (by omega)]
   refine Big.pos (by omega) ?_
   refine Big.pos (by omega) ?_
   refine Big.pos (by omega) ?_
   refine Big.bind hS ?_
   exact Big.neg (by omega) (Big.some_ _)
theorem ParsePuzzle_spec_yes (a : List UInt8) (p : Int) (l : List (Int × Int × Int)) (h : puz p l = true) (ha : a = puzText p l) : Big (fun k => spec_ParsePuzzle.f k a) ((p, l), true) := by
 have hlen : a.length = a.length := rfl
 obtain ⟨hp, hl, hb⟩ := puz_iff h
 obtain ⟨h1, _, h3, h4⟩ := puz_split h
 have hsz : a.length ≤ 60 := by
  rw [← hlen, ha]
  exact h3
 have hS := l1Split_at a (by omega) 97
 rw [show sp 97 a = _ from (congrArg (sp 97) ha).trans h1] at hS
 suffices hP : Big (fun k => spec_pzParse.f k a) ((p, l), true) by
  unfold spec_ParsePuzzle.f
  exact Big.bind hP (Big.pos rfl (Big.some_ _))
 unfold spec_pzParse.f
 refine Big.bind hS ?_
 refine Big.neg (by omega) ?_
 refine Big.succ ?_
 unfold spec_pzParse.j0
 refine Big.neg (by simp) ?_
 refine Big.pos (by simp) ?_
 refine Big.bind (l1Read_at p (by omega)) ?_
 refine Big.pos (by simp) ?_
 have e1 : rde ([Go.Lib.itoa p, Go.Lib.join (l.map cL) [44]]) 1 = (Go.Lib.join (l.map cL) [44]) := rfl
 rw [e1]
 cases l with
 | nil =>
  refine Big.neg (by simp [Go.Lib.join_nil]) ?_
  exact pzEnd_yes a p [] h ha
 | cons c r =>
  obtain ⟨h5, h6⟩ := h4 (by simp)
  have hj : (Go.Lib.join ((c :: r).map cL) [44]).length ≤ 60 := by
   unfold puzText at h3
   simp only [List.length_append] at h3
   omega
  refine Big.pos (by have := List.length_pos_iff.2 h6; omega) ?_
  have hS2 := l1Split_at ((Go.Lib.join ((c :: r).map cL) [44])) (by omega) 44
  rw [h5] at hS2
  refine Big.bind hS2 ?_
  exact pzParse_yes a p (c :: r) h ha (c :: r).length 0 (by omega)
theorem ParsePuzzle_spec_no (a : List UInt8) (hs : a.length ≤ 1048576) (hN : noPuz a) : Big (fun k => spec_ParsePuzzle.f k a) ((0, []), false) := by
 have hlen : a.length = a.length := rfl
 obtain ⟨g, hg⟩ := Classical.axiomOfChoice l1Read_tot
 suffices hP : ∃ R : (Int × List (Int × Int × Int)) × Bool, R.2 = false ∧ Big (fun k => spec_pzParse.f k a) R by
  obtain ⟨R, hR, hB⟩ := hP
  unfold spec_ParsePuzzle.f
  refine Big.bind hB ?_
  exact Big.neg (by rw [hR]; decide) (Big.some_ _)
 have hS := l1Split_at a hs 97
 have hj : ∀ W, Big (fun k => spec_pzParse.j0 k a W true 0 []) ((0, []), false) := fun W => Big.succ (by
  unfold spec_pzParse.j0
  exact Big.pos rfl (Big.some_ _))
 by_cases h60 : (a.length : Int) > 60
 ·refine ⟨((0, []), false), rfl, ?_⟩
  unfold spec_pzParse.f
  exact Big.bind hS (Big.pos h60 (hj _))
 ·by_cases h2 : (sp 97 a).length = 2
  ·have hw := sp_word 97 a
   match hsp : sp 97 a, h2 with
   | [u, v], _ =>
    rw [hsp] at hS hw
    have hv := hw v (by simp)
    have hS2 := l1Split_at v (by omega) 44
    have hv2 := sp_len 44 v
    have hw2 := sp_word 44 v
    obtain ⟨R, hR, hB⟩ := pzParse_no a hN (sp 44 v) (by omega) (fun w h => by have := hw2 w h; omega) (g u) (sp 44 v).length 0 [] (by omega) (by simp)
    refine ⟨if (v.length : Int) > 0 then R else ((g u, []), false), by split <;> first | exact hR | rfl, ?_⟩
    unfold spec_pzParse.f
    refine Big.bind hS ?_
    refine Big.neg h60 ?_
    refine Big.succ ?_
    unfold spec_pzParse.j0
    refine Big.neg (by simp) ?_
    refine Big.pos (by simp) ?_
    refine Big.bind (hg u) ?_
    refine Big.pos (by simp) ?_
    have e1 : rde ([u, v]) 1 = v := rfl
    rw [e1]
    by_cases h0 : (v.length : Int) > 0
    ·rw [if_pos h0]
     refine Big.pos h0 ?_
     refine Big.bind hS2 ?_
     exact hB
    ·rw [if_neg h0]
     refine Big.neg h0 ?_
     exact pzEnd_no a hN (g u) []
  ·refine ⟨((0, []), false), rfl, ?_⟩
   unfold spec_pzParse.f
   refine Big.bind hS ?_
   refine Big.neg h60 ?_
   have e : ((((sp 97 a)).length : Int) != 2) = true := by
    rw [bne_iff_ne]
    omega
   rw [e]
   exact hj _
theorem impl_j1_yes (a : List UInt8) (p : Int) (l : List (Int × Int × Int)) (h : puz p l = true) (ha : a = puzText p l) : Big (fun k => impl_ParsePuzzle.j0 k a true 0 [] p l) ((p, l), true) := by
 refine Big.succ ?_
 unfold impl_ParsePuzzle.j0
 refine Big.pos rfl ?_
 refine Big.bind (IsPuzzle_at p l) ?_
 rw [h]
 refine Big.pos rfl (Big.bind (puzText_at h) ?_)
 exact Big.neg (by rw [ha]; simp) (Big.some_ _)
theorem impl_j1_no (a : List UInt8) (hN : noPuz a) (b : Bool) (p : Int) (l : List (Int × Int × Int)) : Big (fun k => impl_ParsePuzzle.j0 k a b 0 [] p l) ((0, []), false) := by
 refine Big.succ ?_
 unfold impl_ParsePuzzle.j0
 cases b
 ·exact Big.neg (by decide) (Big.some_ _)
 ·refine Big.pos rfl (Big.bind (IsPuzzle_at p l) ?_)
  cases h : puz p l
  ·exact Big.neg (by decide) (Big.some_ _)
  ·refine Big.pos rfl (Big.bind (puzText_at h) ?_)
   exact Big.pos (bne_iff_ne.mpr fun e => hN p l h e.symm) (Big.some_ _)
theorem impl_l_yes (a : List UInt8) (p : Int) (l : List (Int × Int × Int)) (h : puz p l = true) (ha : a = puzText p l) (d : Nat) : ∀ i : Nat, i + d = l.length → Big (fun k => impl_ParsePuzzle.l0 k a true ((l.map cL)) (((l.map cL)).length : Int) i 0 [] p (l.take i)) ((p, l), true) := by
 obtain ⟨hp, hl, hb⟩ := puz_iff h
 have hml : ((l.map cL)).length = l.length := by simp only [List.length_map]
 rw [hml]
 induction d with
 | zero =>
  intro i hi
  rw [List.take_of_length_le (show l.length ≤ i by omega)]
  refine Big.succ ?_
  unfold impl_ParsePuzzle.l0
  exact Big.neg (by omega) (impl_j1_yes a p l h ha)
 | succ d ih =>
  intro i hi
  have hlt : i < l.length := by omega
  have hc := hb _ (List.getElem_mem hlt)
  have er : rde ((l.map cL)) (i : Int) = (cL l[i]) := by
   rw [rde_nat _ i (by rw [List.length_map]; exact hlt), List.getElem_map]
  have hlen := cL_len8 hc
  have hS := readNumbers_at ((cL l[i])) (by omega) 46
  rw [cL_sp hc] at hS
  obtain ⟨a0, a1, a2⟩ := hc
  rw [nums_itoa [(l[i]).1, (l[i]).2.1, (l[i]).2.2] (fun x hx => by
   simp only [List.mem_cons, List.mem_nil_iff, or_false] at hx
   rcases hx with rfl | rfl | rfl <;> omega)] at hS
  refine Big.succ ?_
  unfold impl_ParsePuzzle.l0
  rw [er, w64n (by omega)]
  refine Big.pos (by omega) ?_
  refine Big.pos (by omega) ?_
  refine Big.pos (by rw [hml]; omega) ?_
  refine Big.bind hS ?_
  refine Big.pos rfl ?_
  refine Big.pos rfl ?_
  refine Big.neg (by rw [List.length_take]; omega) ?_
  refine Big.pos (by simp) ?_
  refine Big.pos (by simp) ?_
  refine Big.pos (by simp) ?_
  refine Big.pos (by rw [List.length_take]; omega) ?_
  have e : l.take i ++ [(⟨rde [(l[i]).1, (l[i]).2.1, (l[i]).2.2] 0, rde [(l[i]).1, (l[i]).2.1, (l[i]).2.2] 1, rde [(l[i]).1, (l[i]).2.1, (l[i]).2.2] 2⟩ : (Int × Int × Int))] = l.take (i + 1) := by
   rw [List.take_succ_eq_append_getElem hlt]
   rfl
  rw [e]
  exact ih (i + 1) (by omega)
theorem impl_l_no (a : List UInt8) (hN : noPuz a) (b : Bool) (W : List (List UInt8)) (hl : W.length ≤ 2000000) (hw : ∀ w ∈ W, w.length ≤ 1048576) (p : Int) (d : Nat) : ∀ (i : Nat) (L : List (Int × Int × Int)), i + d = W.length → L.length ≤ i → Big (fun k => impl_ParsePuzzle.l0 k a b (W) (W.length : Int) i 0 [] p L) ((0, []), false) := by
 induction d with
 | zero =>
  intro i L hi hL
  refine Big.succ ?_
  unfold impl_ParsePuzzle.l0
  exact Big.neg (by omega) (impl_j1_no a hN b p L)
 | succ d ih =>
  intro i L hi hL
  have hlt : i < W.length := by omega
  have er : rde (W) (i : Int) = W[i] := rde_nat W i hlt
  have hS := readNumbers_at (W[i]) (by exact hw _ (List.getElem_mem hlt)) 46
  generalize numsOut ((sp 46 W[i])) = N at hS
  obtain ⟨n, ok⟩ := N
  refine Big.succ ?_
  unfold impl_ParsePuzzle.l0
  rw [er, w64n (by omega)]
  refine Big.pos (by omega) ?_
  refine Big.pos (by omega) ?_
  refine Big.pos (by omega) ?_
  refine Big.bind hS ?_
  cases ok
  ·exact Big.neg (by simp) (Big.some_ _)
  ·refine Big.pos rfl ?_
   by_cases h3 : (n.length : Int) = 3
   ·refine Big.pos h3 ?_
    by_cases h6 : (L.length : Int) = 6
    ·exact Big.pos h6 (Big.some_ _)
    ·refine Big.neg h6 ?_
     refine Big.pos (by show (0 : Int) < (n.length : Int); omega) ?_
     refine Big.pos (by show (1 : Int) < (n.length : Int); omega) ?_
     refine Big.pos (by show (2 : Int) < (n.length : Int); omega) ?_
     refine Big.pos (by omega) ?_
     exact ih (i + 1) _ (by omega) (by rw [List.length_append, List.length_singleton]; omega)
   ·exact Big.neg h3 (Big.some_ _)
theorem ParsePuzzle_impl_yes (a : List UInt8) (p : Int) (l : List (Int × Int × Int)) (h : puz p l = true) (ha : a = puzText p l) : Big (fun k => impl_ParsePuzzle.f k a) ((p, l), true) := by
 have hlen : a.length = a.length := rfl
 obtain ⟨hp, hl, hb⟩ := puz_iff h
 obtain ⟨_, h2, h3, h4⟩ := puz_split h
 have hsz : a.length ≤ 60 := by
  rw [← hlen, ha]
  exact h3
 have hC : S.strings_Cut.f a [97] = some ((Go.Lib.itoa p), (Go.Lib.join (l.map cL) [44]), true) := by
  unfold S.strings_Cut.f
  rw [if_pos (by omega), ha, h2]
 have hn := (num_at p (by omega)).2
 have hR : S.impl_readNumber.f ((Go.Lib.itoa p)) = some (p, true) := by
  unfold S.impl_readNumber.f
  rw [if_pos (by omega), word_at p (by omega)]
 unfold impl_ParsePuzzle.f
 rw [hC]
 refine Big.bind (Big.some_ _) ?_
 rw [hR]
 refine Big.bind (Big.some_ _) ?_
 cases l with
 | nil =>
  refine Big.neg (by simp [Go.Lib.join_nil]) ?_
  exact impl_j1_yes a p [] h ha
 | cons c r =>
  obtain ⟨h5, h6⟩ := h4 (by simp)
  have hj : (Go.Lib.join ((c :: r).map cL) [44]).length ≤ 60 := by
   unfold puzText at h3
   simp only [List.length_append] at h3
   omega
  refine Big.pos (bne_iff_ne.mpr h6) ?_
  have hS := Split_at ((Go.Lib.join ((c :: r).map cL) [44])) 44 (by omega)
  rw [h5] at hS
  refine Big.bind (Big.of hS) ?_
  exact impl_l_yes a p (c :: r) h ha (c :: r).length 0 (by omega)
theorem ParsePuzzle_impl_no (a : List UInt8) (hs : a.length ≤ 1048576) (hN : noPuz a) : Big (fun k => impl_ParsePuzzle.f k a) ((0, []), false) := by
 have hlen : a.length = a.length := rfl
 obtain ⟨hc1, hc2⟩ := cut_len a [97]
 have hC : S.strings_Cut.f a [97] = some ((Go.Lib.cut a [97]).1, (Go.Lib.cut a [97]).2.1, (Go.Lib.cut a [97]).2.2) := by
  unfold S.strings_Cut.f
  rw [if_pos (by omega)]
 generalize Go.Lib.cut a [97] = C at hC hc1 hc2
 obtain ⟨u, v, f⟩ := C
 have hu : u.length ≤ a.length := hc1
 have hv : v.length ≤ a.length := hc2
 have hR : S.impl_readNumber.f u = some (S.readWord u) := by
  unfold S.impl_readNumber.f
  rw [if_pos (by omega)]
 generalize S.readWord u = N at hR
 obtain ⟨n, ok⟩ := N
 unfold impl_ParsePuzzle.f
 rw [hC]
 refine Big.bind (Big.some_ _) ?_
 show Big (fun k => (S.impl_readNumber.f u).bind _) _
 rw [hR]
 refine Big.bind (Big.some_ _) ?_
 by_cases h0 : v = ([] : List UInt8)
 ·subst h0
  exact Big.neg (by simp) (impl_j1_no a hN ok n [])
 ·refine Big.pos (bne_iff_ne.mpr h0) ?_
  have hS := Split_at v 44 (by omega)
  refine Big.bind (Big.of hS) ?_
  have hl2 := sp_len 44 v
  have hw2 := sp_word 44 v
  exact impl_l_no a hN ok (sp 44 v) (by omega) (fun w h => by have := hw2 w h; omega) n (sp 44 v).length 0 [] (by omega) (by simp)
theorem ParsePuzzle_both (a : List UInt8) (hs : a.length ≤ 1048576) : ∃ R : (Int × List (Int × Int × Int)) × Bool, R.1.2.length ≤ 1048576 ∧ Big (fun k => spec_ParsePuzzle.f k a) R ∧ Big (fun k => impl_ParsePuzzle.f k a) R := by
 by_cases h : ∃ (p : Int) (L : List (Int × Int × Int)), puz p L = true ∧ a = puzText p L
 ·obtain ⟨p, L, h1, h2⟩ := h
  exact ⟨((p, L), true), by have := (puz_iff h1).2.1; show L.length ≤ 1048576; omega, ParsePuzzle_spec_yes a p L h1 h2, ParsePuzzle_impl_yes a p L h1 h2⟩
 ·have hN : noPuz a := fun p L h1 h2 => h ⟨p, L, h1, h2⟩
  exact ⟨((0, []), false), by simp, ParsePuzzle_spec_no a hs hN, ParsePuzzle_impl_no a hs hN⟩
end Go.Proofs.YtecdijlfnnminaaGreatDoor.Q
