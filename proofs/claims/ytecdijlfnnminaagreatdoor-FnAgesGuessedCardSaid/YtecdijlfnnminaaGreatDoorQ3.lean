/- Chapter 9 (puzzles): what is so of all solutions: their order, how many there are at most, what all share. Conditions: as typed. -/
import Derived.Test.YtecdijlfnnminaaGreatDoorQ2
import Derived.Test.YtecdijlfnnminaaGreatDoorR0
import Derived.Test.YtecdijlfnnminaaGreatDoorQ1
import Derived.Laws.BitsAllLaws
set_option linter.all false
namespace Go.Proofs.YtecdijlfnnminaaGreatDoor.Q
open Go.RowKit Go Go.Proofs.YtecdijlfnnminaaGreatDoor.Eng Go.Proofs.YtecdijlfnnminaaGreatDoor Go.Proofs.YtecdijlfnnminaaGreatDoor.Y
set_option linter.unusedSimpArgs false

/-! ### the order -/
def lexL (a b : List Int) : Prop := ∃ (p : List Int) (u v : Int) (s t : List Int), a = p ++ u :: s ∧ b = p ++ v :: t ∧ u < v
theorem agesN_mem {f : List Int → List (List Int)} {b : List Int} {y : List Int} : ∀ n, y ∈ agesN f b n → ∃ i, i < n ∧ y ∈ f (b ++ [12 - (i : Int)])
 | 0, h => by simp [agesN] at h
 | n + 1, h => by
  unfold agesN at h
  rcases List.mem_append.1 h with h | h
  ·exact ⟨n, by omega, h⟩
  ·obtain ⟨i, hi, hy⟩ := agesN_mem n h
   exact ⟨i, by omega, hy⟩
theorem lookN_pre (cl : List (Int × Int × Int)) : ∀ (n : Nat) (b : List Int), ∀ x ∈ lookN cl n b, ∃ t, x = b ++ t
 | 0, b, x, hx => by
  unfold lookN at hx
  cases h : fitAll cl b <;> simp [h] at hx
  exact ⟨[], by rw [hx, List.append_nil]⟩
 | n + 1, b, x, hx => by
  unfold lookN at hx
  obtain ⟨i, _, hy⟩ := agesN_mem 12 hx
  obtain ⟨t, rfl⟩ := lookN_pre cl n _ x hy
  exact ⟨[12 - (i : Int)] ++ t, by rw [List.append_assoc]⟩
theorem agesN_pair (cl : List (Int × Int × Int)) (n : Nat) (b : List Int) (h : ∀ b, (lookN cl n b).Pairwise lexL) : ∀ m, (agesN (lookN cl n) b m).Pairwise lexL
 | 0 => by unfold agesN; exact .nil
 | m + 1 => by
  unfold agesN
  refine List.pairwise_append.2 ⟨h _, agesN_pair cl n b h m, fun x hx y hy => ?_⟩
  obtain ⟨i, hi, hy⟩ := agesN_mem m hy
  obtain ⟨s, rfl⟩ := lookN_pre cl n _ x hx
  obtain ⟨t, rfl⟩ := lookN_pre cl n _ y hy
  exact ⟨b, 12 - (m : Int), 12 - (i : Int), s, t, by rw [List.append_assoc]; rfl, by rw [List.append_assoc]; rfl, by omega⟩
theorem lookN_pair (cl : List (Int × Int × Int)) : ∀ (n : Nat) (b : List Int), (lookN cl n b).Pairwise lexL
 | 0, b => by
  unfold lookN
  split
  ·exact List.pairwise_singleton _ _
  ·exact .nil
 | n + 1, b => by
  unfold lookN
  exact agesN_pair cl n b (lookN_pair cl n) 12
theorem sols_pair (p : Int) (cl : List (Int × Int × Int)) : (sols p cl).Pairwise lexL := lookN_pair cl _ _
/-! ### how many there are without clues -/
theorem agesN_len {f : List Int → List (List Int)} (m : Nat) (h : ∀ b, (f b).length = m) (b : List Int) : ∀ n, (agesN f b n).length = n * m
 | 0 => by simp [agesN]
 | n + 1 => by
  unfold agesN
  rw [List.length_append, h, agesN_len m h b n, Nat.succ_mul]
  omega
theorem lookN_all : ∀ (n : Nat) (b : List Int), (lookN [] n b).length = 12 ^ n
 | 0, b => by simp [lookN, fitAll]
 | n + 1, b => by
  unfold lookN
  rw [agesN_len (12 ^ n) (lookN_all n) b 12, Nat.pow_succ]
  omega
theorem sols_nil (p : Int) (hp : 2 ≤ p ∧ p ≤ 3) : ((sols p []).length : Int) = if p = 2 then 144 else 1728 := by
 unfold sols
 rw [lookN_all]
 rcases (show p = 2 ∨ p = 3 by omega) with rfl | rfl
 ·rfl
 ·rfl
/-! ### what all share -/
/-- A list beside a row, from i on: where they differ it is marked. -/
def sureR (row : List Int) : List Int → Nat → Nat → List Int
 | out, _, 0 => out
 | out, i, d + 1 => sureR row (if rde row (i : Int) = rde out (i : Int) then out else out.set i (-1)) (i + 1) d
def sureN : List Int → List (List Int) → List Int
 | out, [] => out
 | out, row :: t => sureN (sureR row out 0 out.length) t
theorem sureR_length (row : List Int) : ∀ (d : Nat) (out : List Int) (i : Nat), (sureR row out i d).length = out.length := by
 intro d
 induction d with
 | zero => intro out i; rfl
 | succ d ih =>
  intro out i
  unfold sureR
  rw [ih]
  split <;> simp
theorem sureN_length : ∀ (S : List (List Int)) (out : List Int), (sureN out S).length = out.length
 | [], _ => rfl
 | row :: t, out => by
  unfold sureN
  rw [sureN_length t, sureR_length]
theorem sureR_at (row : List Int) : ∀ (d : Nat) (out : List Int) (i k : Nat), k < out.length → rde (sureR row out i d) (k : Int) = if i ≤ k ∧ k < i + d then (if rde row (k : Int) = rde out (k : Int) then rde out (k : Int) else -1) else rde out (k : Int) := by
 intro d
 induction d with
 | zero =>
  intro out i k hk
  rw [if_neg (by omega)]
  rfl
 | succ d ih =>
  intro out i k hk
  unfold sureR
  by_cases he : rde row (i : Int) = rde out (i : Int)
  ·rw [if_pos he, ih out (i + 1) k hk]
   by_cases hik : i = k
   ·subst hik
    rw [if_neg (by omega), if_pos (by omega), if_pos he]
   ·by_cases h : i + 1 ≤ k ∧ k < i + 1 + d
    ·have h' : i ≤ k ∧ k < i + (d + 1) := by omega
     rw [if_pos h, if_pos h']
    ·have h' : ¬ (i ≤ k ∧ k < i + (d + 1)) := by omega
     rw [if_neg h, if_neg h']
  ·rw [if_neg he, ih (out.set i (-1)) (i + 1) k (by rw [List.length_set]; exact hk)]
   by_cases hik : i = k
   ·subst hik
    rw [if_neg (by omega), if_pos (by omega), if_neg he, rde_nat _ _ (by rw [List.length_set]; exact hk)]
    simp
   ·have e : rde (out.set i (-1)) (k : Int) = rde out (k : Int) := by
     rw [rde_nat _ _ (by rw [List.length_set]; exact hk), rde_nat _ _ hk, List.getElem_set_ne hik]
    rw [e]
    by_cases h : i + 1 ≤ k ∧ k < i + 1 + d
    ·have h' : i ≤ k ∧ k < i + (d + 1) := by omega
     rw [if_pos h, if_pos h']
    ·have h' : ¬ (i ≤ k ∧ k < i + (d + 1)) := by omega
     rw [if_neg h, if_neg h']
/-- Each place is marked, or all rows have there what the list had. -/
theorem sureN_at : ∀ (S : List (List Int)) (out : List Int) (k : Nat), k < out.length → rde (sureN out S) (k : Int) = -1 ∨ (rde (sureN out S) (k : Int) = rde out (k : Int) ∧ ∀ r ∈ S, rde r (k : Int) = rde out (k : Int))
 | [], out, k, hk => .inr ⟨rfl, fun r hr => by cases hr⟩
 | row :: t, out, k, hk => by
  unfold sureN
  have h1 := sureR_at row out.length out 0 k hk
  rw [if_pos (by omega)] at h1
  rcases sureN_at t (sureR row out 0 out.length) k (by rw [sureR_length]; exact hk) with h | ⟨h, h2⟩
  ·exact .inl h
  ·by_cases he : rde row (k : Int) = rde out (k : Int)
   ·rw [if_pos he] at h1
    refine .inr ⟨h.trans h1, fun r hr => ?_⟩
    rcases List.mem_cons.1 hr with rfl | hr
    ·exact he
    ·exact (h2 r hr).trans h1
   ·rw [if_neg he] at h1
    exact .inl (h.trans h1)
theorem sureR_self (row : List Int) : ∀ (d i : Nat), sureR row row i d = row
 | 0, _ => rfl
 | d + 1, i => by
  unfold sureR
  rw [if_pos rfl]
  exact sureR_self row d (i + 1)
theorem sureN_one (r : List Int) : sureN r [r] = r := by
 unfold sureN sureN
 exact sureR_self r _ 0
/-! ### clues that change nothing, and those of the first clues -/
/-- The indices below i whose clue changes nothing. -/
def needN (p : Int) (cl : List (Int × Int × Int)) (m : Nat) : Nat → List Int
 | 0 => []
 | i + 1 => if (sols p (cl.eraseIdx i)).length = m then needN p cl m i ++ [(i : Int)] else needN p cl m i
theorem needN_len (p : Int) (cl : List (Int × Int × Int)) (m : Nat) : ∀ i, (needN p cl m i).length ≤ i
 | 0 => Nat.le_refl _
 | i + 1 => by
  have := needN_len p cl m i
  unfold needN
  split
  ·rw [List.length_append, List.length_singleton]; omega
  ·omega
theorem needN_mem (p : Int) (cl : List (Int × Int × Int)) (m : Nat) (k : Nat) : ∀ i, (k : Int) ∈ needN p cl m i ↔ k < i ∧ (sols p (cl.eraseIdx k)).length = m
 | 0 => by simp [needN]
 | i + 1 => by
  have ih := needN_mem p cl m k i
  unfold needN
  split
  ·rename_i h
   rw [List.mem_append, ih, List.mem_singleton]
   constructor
   ·rintro (h1 | h1)
    ·exact ⟨by omega, h1.2⟩
    ·have : k = i := by omega
     subst this
     exact ⟨by omega, h⟩
   ·rintro ⟨h1, h2⟩
    by_cases hk : k = i
    ·exact .inr (by omega)
    ·exact .inl ⟨by omega, h2⟩
  ·rename_i h
   rw [ih]
   constructor
   ·rintro ⟨h1, h2⟩
    exact ⟨by omega, h2⟩
   ·rintro ⟨h1, h2⟩
    by_cases hk : k = i
    ·subst hk; exact absurd h2 h
    ·exact ⟨by omega, h2⟩
/-- How many fit the first clues, for 0 up to i - 1 of them. -/
def leftN (p : Int) (cl : List (Int × Int × Int)) (i : Nat) : List Int := (List.range i).map fun j => ((sols p (cl.take j)).length : Int)
theorem leftN_len (p : Int) (cl : List (Int × Int × Int)) (i : Nat) : (leftN p cl i).length = i := by simp [leftN]
theorem leftN_snoc (p : Int) (cl : List (Int × Int × Int)) (i : Nat) : leftN p cl (i + 1) = leftN p cl i ++ [((sols p (cl.take i)).length : Int)] := by simp [leftN, List.range_succ]
theorem leftN_at (p : Int) (cl : List (Int × Int × Int)) (i k : Nat) (h : k < i) : rde (leftN p cl i) (k : Int) = ((sols p (cl.take k)).length : Int) := by
 rw [rde_nat _ _ (by rw [leftN_len]; exact h)]
 simp [leftN]
theorem leftN_falls (p : Int) (cl : List (Int × Int × Int)) (k : Nat) : (sols p (cl.take (k + 1))).length ≤ (sols p (cl.take k)).length :=
 (sols_sub (p := p) (fun c hc => (List.take_subset_take_left cl (Nat.le_succ k)) hc)).length_le
end Go.Proofs.YtecdijlfnnminaaGreatDoor.Q
set_option linter.all false
namespace Go.Proofs.YtecdijlfnnminaaGreatDoor.Q
open Go.RowKit Go Go.Proofs.YtecdijlfnnminaaGreatDoor.Eng Go.Proofs.YtecdijlfnnminaaGreatDoor Go.Proofs.YtecdijlfnnminaaGreatDoor.Y
set_option linter.unusedSimpArgs false

theorem Solutions_s (p : Int) (cl : List (Int × Int × Int)) : Big (fun k => spec_Solutions.f k (p, cl)) (if puz p cl = true then (sols p cl, true) else ([], false)) := by
 unfold spec_Solutions.f
 refine Big.bind (pzGood_at p cl) ?_
 cases h : puz p cl
 ·exact Big.neg Bool.false_ne_true (by simp only [Bool.false_eq_true, if_false]; exact Big.some_ _)
 ·obtain ⟨hp, hl, hg⟩ := puz_good h
  simp only [if_true]
  exact Big.bind (pzAll_at p hp cl (by omega) hg) (Big.some_ _)
theorem Count_s (p : Int) (cl : List (Int × Int × Int)) : Big (fun k => spec_CountSolutions.f k (p, cl)) (if puz p cl = true then (((sols p cl).length : Int), true) else (0, false)) := by
 unfold spec_CountSolutions.f
 refine Big.bind (pzGood_at p cl) ?_
 cases h : puz p cl
 ·simp only [Bool.false_eq_true, if_false]
  exact Big.some_ _
 ·obtain ⟨hp, hl, hg⟩ := puz_good h
  simp only [if_true]
  exact Big.bind (pzAll_at p hp cl (by omega) hg) (Big.some_ _)
theorem Solved_s (p : Int) (cl : List (Int × Int × Int)) : Big (fun k => spec_IsSolved.f k (p, cl)) (if puz p cl = true then (((sols p cl).length : Int) == 1, true) else (false, false)) := by
 unfold spec_IsSolved.f
 refine Big.bind (pzGood_at p cl) ?_
 cases h : puz p cl
 ·simp only [Bool.false_eq_true, if_false]
  exact Big.some_ _
 ·obtain ⟨hp, hl, hg⟩ := puz_good h
  simp only [if_true]
  exact Big.bind (pzSolved_at p hp cl (by omega) hg) (Big.some_ _)
/-- Is there a solution? -/
def some1 (p : Int) (cl : List (Int × Int × Int)) : Bool := puz p cl && !((sols p cl).length == 0)
def firstR (p : Int) (cl : List (Int × Int × Int)) : List Int × Bool := if some1 p cl = true then (rde (sols p cl) 0, true) else ([], false)
def sureRes (p : Int) (cl : List (Int × Int × Int)) : List Int × Bool := if some1 p cl = true then (sureN (rde (sols p cl) 0) (sols p cl), true) else ([], false)
theorem First_at (p : Int) (cl : List (Int × Int × Int)) : Big (fun k => spec_FirstSolution.f k (p, cl)) (firstR p cl) ∧ Big (fun k => impl_FirstSolution.f k (p, cl)) (firstR p cl) := by
 unfold spec_FirstSolution.f impl_FirstSolution.f firstR some1
 have a := pzGood_at p cl
 have b := Solutions2_at p cl
 cases h : puz p cl
 ·rw [h] at a b
  simp only [Bool.false_eq_true, if_false, Bool.false_and] at b ⊢
  exact ⟨Big.bind a (Big.neg Bool.false_ne_true (Big.some_ _)), Big.bind b (Big.neg Bool.false_ne_true (Big.some_ _))⟩
 ·rw [h] at a b
  obtain ⟨hp, hl, hg⟩ := puz_good h
  have hA := pzAll_at p hp cl (by omega) hg
  simp only [if_true, Bool.true_and] at b ⊢
  generalize hS : sols p cl = S at *
  by_cases h0 : S.length = 0
  ·rw [beq_iff_eq.mpr h0]
   simp only [Bool.not_true, Bool.false_eq_true, if_false]
   exact ⟨Big.bind a (Big.pos rfl (Big.bind hA (Big.pos (by omega) (Big.some_ _)))), Big.bind b (Big.pos rfl (Big.pos (by show (S.length : Int) = 0; omega) (Big.some_ _)))⟩
  ·rw [beq_eq_false_iff_ne.mpr h0]
   simp only [Bool.not_false, if_true]
   exact ⟨Big.bind a (Big.pos rfl (Big.bind hA (Big.neg (by omega) (Big.pos (by omega) (Big.some_ _))))), Big.bind b (Big.pos rfl (Big.neg (by show ¬ (S.length : Int) = 0; omega) (Big.pos (by show (0 : Int) < (S.length : Int); omega) (Big.some_ _))))⟩
theorem sSure_l (n : Nat) (hn : n ≤ 3) (S : List (List Int)) (idx : Nat) (hx : idx < 1000000) (row : List Int) (hr : row.length = n) (R : List Int × Bool) : ∀ (d i : Nat) (out : List Int), i + d = n → out.length = n → Big (fun k => spec_SureAges.l0 k (sureR row out i d) S (S.length : Int) ((idx + 1 : Nat) : Int)) R → Big (fun k => spec_SureAges.l1 k out row S (S.length : Int) idx (n : Int) i) R := by
 intro d
 induction d with
 | zero =>
  intro i out hi ho h
  refine Big.succ ?_
  simp only [spec_SureAges.l1, if_neg (show ¬ (i : Int) < (n : Int) by omega), w64n (show idx < 9223372036854775807 by omega)]
  exact h
 | succ d ih =>
  intro i out hi ho h
  refine Big.succ ?_
  simp only [spec_SureAges.l1, hr, ho, if_pos (show (i : Int) < (n : Int) by omega), if_pos (show 0 ≤ (i : Int) by omega), w64n (show i < 9223372036854775807 by omega), Int.toNat_natCast]
  unfold sureR at h
  by_cases he : rde row (i : Int) = rde out (i : Int)
  ·simp only [if_pos he] at h ⊢
   exact ih (i + 1) out (by omega) ho h
  ·simp only [if_neg he] at h ⊢
   exact ih (i + 1) (out.set i (-1)) (by omega) (by rw [List.length_set]; exact ho) h
theorem iSure_l (n : Nat) (hn : n ≤ 3) (S : List (List Int)) (idx : Nat) (hx : idx < 1000000) (row : List Int) (hr : row.length = n) (R : List Int × Bool) : ∀ (d i : Nat) (out : List Int), i + d = n → out.length = n → Big (fun k => impl_SureAges.l0 k (sureR row out i d) S (S.length : Int) ((idx + 1 : Nat) : Int)) R → Big (fun k => impl_SureAges.l1 k out S (S.length : Int) idx row (n : Int) i) R := by
 intro d
 induction d with
 | zero =>
  intro i out hi ho h
  refine Big.succ ?_
  simp only [impl_SureAges.l1, if_neg (show ¬ (i : Int) < (n : Int) by omega), w64n (show idx < 9223372036854775807 by omega)]
  exact h
 | succ d ih =>
  intro i out hi ho h
  refine Big.succ ?_
  simp only [impl_SureAges.l1, hr, ho, if_pos (show (i : Int) < (n : Int) by omega), if_pos (show 0 ≤ (i : Int) by omega), w64n (show i < 9223372036854775807 by omega), Int.toNat_natCast]
  unfold sureR at h
  by_cases he : rde row (i : Int) = rde out (i : Int)
  ·simp only [if_pos he] at h ⊢
   exact ih (i + 1) out (by omega) ho h
  ·simp only [if_neg he] at h ⊢
   exact ih (i + 1) (out.set i (-1)) (by omega) (by rw [List.length_set]; exact ho) h
theorem sure_l (n : Nat) (hn : n ≤ 3) (S : List (List Int)) (hS : ∀ x ∈ S, x.length = n) (hl : S.length ≤ 1728) (t : List (List Int)) : ∀ (i : Nat) (out : List Int), S.drop i = t → i ≤ S.length → out.length = n → Big (fun k => spec_SureAges.l0 k out S (S.length : Int) i) (sureN out t, true) ∧ Big (fun k => impl_SureAges.l0 k out S (S.length : Int) i) (sureN out t, true) := by
 induction t with
 | nil =>
  intro i out hd hi ho
  rw [List.drop_eq_nil_iff] at hd
  refine ⟨Big.succ ?_, Big.succ ?_⟩
  ·simp only [spec_SureAges.l0, if_neg (show ¬ (i : Int) < (S.length : Int) by omega)]
   exact Big.some_ _
  ·simp only [impl_SureAges.l0, if_neg (show ¬ (i : Int) < (S.length : Int) by omega)]
   exact Big.some_ _
 | cons row t ih =>
  intro i out hd hi ho
  have hlt : i < S.length := by
   rcases Nat.lt_or_ge i S.length with h | h
   ·exact h
   ·rw [List.drop_eq_nil_of_le h] at hd; cases hd
  rw [List.drop_eq_getElem_cons hlt] at hd
  injection hd with e1 e2
  have er : rde S (i : Int) = row := by rw [rde_nat S i hlt, e1]
  have hr : row.length = n := hS _ (by rw [← e1]; exact List.getElem_mem hlt)
  obtain ⟨h1, h2⟩ := ih (i + 1) (sureR row out 0 out.length) e2 (by omega) (by rw [sureR_length]; exact ho)
  unfold sureN
  refine ⟨Big.succ ?_, Big.succ ?_⟩
  ·simp only [spec_SureAges.l0, er, ho, if_pos (show (i : Int) < (S.length : Int) by omega), if_pos (show 0 ≤ (i : Int) by omega)]
   rw [ho] at h1
   exact sSure_l n hn S i (by omega) row hr _ n 0 out (by omega) ho h1
  ·simp only [impl_SureAges.l0, er, hr, ho, if_pos (show (i : Int) < (S.length : Int) by omega), if_pos (show 0 ≤ (i : Int) by omega)]
   rw [ho] at h2
   exact iSure_l n hn S i (by omega) row hr _ n 0 out (by omega) ho h2
theorem Sure_at (p : Int) (cl : List (Int × Int × Int)) : Big (fun k => spec_SureAges.f k (p, cl)) (sureRes p cl) ∧ Big (fun k => impl_SureAges.f k (p, cl)) (sureRes p cl) := by
 unfold spec_SureAges.f impl_SureAges.f sureRes some1
 have a := pzGood_at p cl
 have b := Solutions2_at p cl
 have no : ∀ l, Big (fun k => impl_SureAges.j0 k l true) ([], false) := fun l => Big.succ (by simp only [impl_SureAges.j0, if_true]; exact Big.some_ _)
 cases h : puz p cl
 ·rw [h] at a b
  simp only [Bool.false_eq_true, if_false, Bool.false_and] at b ⊢
  exact ⟨Big.bind a (Big.neg Bool.false_ne_true (Big.some_ _)), Big.bind b (Big.neg Bool.false_ne_true (no _))⟩
 ·rw [h] at a b
  obtain ⟨hp, hl, hg⟩ := puz_good h
  have hrow := sols_row p hp cl
  have hA := pzAll_at p hp cl (by omega) hg
  have hlen := sols_length p hp cl
  simp only [if_true, Bool.true_and] at b ⊢
  generalize hS : sols p cl = S at *
  by_cases h0 : S.length = 0
  ·rw [beq_iff_eq.mpr h0]
   simp only [Bool.not_true, Bool.false_eq_true, if_false]
   refine ⟨Big.bind a (Big.pos rfl (Big.bind hA (Big.pos (by omega) (Big.some_ _)))), Big.bind b (Big.pos rfl ?_)⟩
   simp only [show ((S.length : Int) == 0) = true from beq_iff_eq.mpr (by omega)]
   exact no _
  ·rw [beq_eq_false_iff_ne.mpr h0]
   simp only [Bool.not_false, if_true]
   have h00 : rde S 0 = S[0] := rde_nat S 0 (by omega)
   have hr := (hrow S[0] (List.getElem_mem (by omega))).1
   rw [← h00] at hr
   obtain ⟨h1, h2⟩ := sure_l p.toNat (by omega) S (fun x hx => by have := (hrow x hx).1; omega) hlen S 0 (rde S 0) rfl (Nat.zero_le _) (by omega)
   have hown : spec_l1Own.f (rde S 0) = some (rde S 0) := by
    unfold spec_l1Own.f
    rw [if_pos (by omega)]
   have hcl : slices_Clone.f (rde S 0) = some (rde S 0) := by
    unfold slices_Clone.f
    rw [if_pos (by omega)]
   refine ⟨Big.bind a (Big.pos rfl (Big.bind hA (Big.neg (by omega) (Big.pos (by omega) (Big.bind (Big.of hown) h1))))), Big.bind b (Big.pos rfl ?_)⟩
   simp only [show ((S.length : Int) == 0) = false from beq_eq_false_iff_ne.mpr (by omega)]
   refine Big.succ ?_
   simp only [impl_SureAges.j0, Bool.false_eq_true, if_false, if_pos (show (0 : Int) < (S.length : Int) by omega), hcl, Option.bind_some]
   exact h2
theorem need2_l (p : Int) (hp : 2 ≤ p ∧ p ≤ 3) (cl : List (Int × Int × Int)) (hg : good p cl) (hl : cl.length ≤ 6) (S : List (List Int)) (d : Nat) : ∀ i : Nat, i + d = cl.length → Big (fun k => spec_NeedlessClues.l0 k (needN p cl S.length i) (S.length : Int) (cl.length : Int) i p cl) (needN p cl S.length cl.length, true) ∧ Big (fun k => impl_NeedlessClues.l0 k S (needN p cl S.length i) (cl.length : Int) i p cl) (needN p cl S.length cl.length, true) := by
 induction d with
 | zero =>
  intro i hi
  have e : i = cl.length := by omega
  subst e
  refine ⟨Big.succ ?_, Big.succ ?_⟩
  ·unfold spec_NeedlessClues.l0
   exact Big.neg (by omega) (Big.some_ _)
  ·unfold impl_NeedlessClues.l0
   exact Big.neg (by omega) (Big.some_ _)
 | succ d ih =>
  intro i hi
  obtain ⟨e1, e2⟩ := without_both cl i (by omega) hl
  have hle : (cl.eraseIdx i).length = cl.length - 1 := List.length_eraseIdx_of_lt (by omega)
  have a := pzAll_at p hp _ (by omega) (good_erase hg i)
  have b := solutions_at p hp _ (by omega) (good_erase hg i)
  have hn := needN_len p cl S.length i
  obtain ⟨h1, h2⟩ := ih (i + 1) (by omega)
  by_cases he : (sols p (cl.eraseIdx i)).length = S.length
  ·have e : needN p cl S.length (i + 1) = needN p cl S.length i ++ [(i : Int)] := by
    show (if (sols p (cl.eraseIdx i)).length = S.length then _ else _) = _
    rw [if_pos he]
   rw [e] at h1 h2
   refine ⟨Big.succ ?_, Big.succ ?_⟩
   ·unfold spec_NeedlessClues.l0
    rw [w64n (by omega)]
    exact Big.pos (by omega) (Big.bind (Big.of e1) (Big.bind a (Big.pos (by omega) (Big.pos (by omega) h1))))
   ·unfold impl_NeedlessClues.l0
    rw [w64n (by omega)]
    exact Big.pos (by omega) (Big.bind (Big.of e2) (Big.bind b (Big.pos (by omega) (Big.pos (by omega) h2))))
  ·have e : needN p cl S.length (i + 1) = needN p cl S.length i := by
    show (if (sols p (cl.eraseIdx i)).length = S.length then _ else _) = _
    rw [if_neg he]
   rw [e] at h1 h2
   refine ⟨Big.succ ?_, Big.succ ?_⟩
   ·unfold spec_NeedlessClues.l0
    rw [w64n (by omega)]
    exact Big.pos (by omega) (Big.bind (Big.of e1) (Big.bind a (Big.neg (by omega) h1)))
   ·unfold impl_NeedlessClues.l0
    rw [w64n (by omega)]
    exact Big.pos (by omega) (Big.bind (Big.of e2) (Big.bind b (Big.neg (by omega) h2)))
def needR (p : Int) (cl : List (Int × Int × Int)) : List Int × Bool := if puz p cl = true then (needN p cl (sols p cl).length cl.length, true) else ([], false)
theorem Need_at (p : Int) (cl : List (Int × Int × Int)) : Big (fun k => spec_NeedlessClues.f k (p, cl)) (needR p cl) ∧ Big (fun k => impl_NeedlessClues.f k (p, cl)) (needR p cl) := by
 unfold spec_NeedlessClues.f impl_NeedlessClues.f needR
 have a := pzGood_at p cl
 have b := Solutions2_at p cl
 cases h : puz p cl
 ·rw [h] at a b
  simp only [Bool.false_eq_true, if_false] at b ⊢
  exact ⟨Big.bind a (Big.neg Bool.false_ne_true (Big.some_ _)), Big.bind b (Big.neg Bool.false_ne_true (Big.some_ _))⟩
 ·rw [h] at a b
  obtain ⟨hp, hl, hg⟩ := puz_good h
  obtain ⟨h1, h2⟩ := need2_l p hp cl hg hl (sols p cl) cl.length 0 (by omega)
  simp only [if_true] at b ⊢
  exact ⟨Big.bind a (Big.pos rfl (Big.bind (pzAll_at p hp cl (by omega) hg) h1)), Big.bind b (Big.pos rfl h2)⟩
theorem good_take {p : Int} {cl : List (Int × Int × Int)} (hg : good p cl) (i : Nat) : good p (cl.take i) := fun c hc => hg c (List.mem_of_mem_take hc)
theorem left_l (p : Int) (hp : 2 ≤ p ∧ p ≤ 3) (cl : List (Int × Int × Int)) (hg : good p cl) (hl : cl.length ≤ 6) (d : Nat) : ∀ i : Nat, i + d = cl.length + 1 → Big (fun k => spec_LeftByClues.l0 k (leftN p cl i) i p cl) (leftN p cl (cl.length + 1), true) ∧ Big (fun k => impl_LeftByClues.l0 k (leftN p cl i) ((cl.length + 1 : Nat) : Int) i p cl) (leftN p cl (cl.length + 1), true) := by
 induction d with
 | zero =>
  intro i hi
  have e : i = cl.length + 1 := by omega
  subst e
  refine ⟨Big.succ ?_, Big.succ ?_⟩
  ·simp only [spec_LeftByClues.l0, if_neg (show ¬ ((cl.length + 1 : Nat) : Int) ≤ (cl.length : Int) by omega)]
   exact Big.some_ _
  ·simp only [impl_LeftByClues.l0, if_neg (show ¬ ((cl.length + 1 : Nat) : Int) < ((cl.length + 1 : Nat) : Int) by omega)]
   exact Big.some_ _
 | succ d ih =>
  intro i hi
  obtain ⟨h1, h2⟩ := ih (i + 1) (by omega)
  rw [leftN_snoc] at h1 h2
  have hn := leftN_len p cl i
  have ht : (cl.take i).length ≤ 1000000 := by rw [List.length_take]; omega
  refine ⟨Big.succ ?_, Big.succ ?_⟩
  ·simp only [spec_LeftByClues.l0, if_pos (show (i : Int) ≤ (cl.length : Int) by omega), if_pos (show 0 ≤ (i : Int) by omega), Int.toNat_natCast]
   refine Big.bind (pzAll_at p hp _ ht (good_take hg i)) ?_
   simp only [if_pos (show (leftN p cl i).length < 17592186044416 by omega), w64n (show i < 9223372036854775807 by omega)]
   exact h1
  ·simp only [impl_LeftByClues.l0, if_pos (show (i : Int) < ((cl.length + 1 : Nat) : Int) by omega), if_pos (show 0 ≤ (i : Int) by omega), if_pos (show (i : Int) ≤ (cl.length : Int) by omega), Int.toNat_natCast]
   refine Big.bind (solutions_at p hp _ ht (good_take hg i)) ?_
   simp only [if_pos (show (leftN p cl i).length < 17592186044416 by omega), w64n (show i < 9223372036854775807 by omega)]
   exact h2
def leftR (p : Int) (cl : List (Int × Int × Int)) : List Int × Bool := if puz p cl = true then (leftN p cl (cl.length + 1), true) else ([], false)
theorem Left_at (p : Int) (cl : List (Int × Int × Int)) : Big (fun k => spec_LeftByClues.f k (p, cl)) (leftR p cl) ∧ Big (fun k => impl_LeftByClues.f k (p, cl)) (leftR p cl) := by
 unfold spec_LeftByClues.f impl_LeftByClues.f leftR
 have a := pzGood_at p cl
 have b := IsPuzzle_at p cl
 cases h : puz p cl
 ·rw [h] at a b
  simp only [Bool.false_eq_true, if_false]
  exact ⟨Big.bind a (Big.neg Bool.false_ne_true (Big.some_ _)), Big.bind b (Big.neg Bool.false_ne_true (Big.some_ _))⟩
 ·rw [h] at a b
  obtain ⟨hp, hl, hg⟩ := puz_good h
  obtain ⟨h1, h2⟩ := left_l p hp cl hg hl (cl.length + 1) 0 (by omega)
  simp only [if_true]
  refine ⟨Big.bind a (Big.pos rfl h1), Big.bind b (Big.pos rfl ?_)⟩
  simp only [w64n (show cl.length < 9223372036854775807 by omega)]
  exact h2
theorem take_drop_one {α : Type} (l : List α) (i : Nat) (h : i < l.length) : (l.take (i + 1)).drop i = [l[i]] := by
 rw [List.take_add_one, List.getElem?_eq_getElem h, List.drop_append_of_le_length (by rw [List.length_take]; omega)]
 rw [List.drop_eq_nil_of_le (by rw [List.length_take]; omega)]
 rfl
theorem best_one (p : Int) (hp : 2 ≤ p ∧ p ≤ 3) (cl : List (Int × Int × Int)) (hg : good p cl) (i : Nat) (h : i < cl.length) : Big (fun k => spec_pzAll.f k p ((cl.take (((i + 1 : Nat) : Int)).toNat).drop (i : Int).toNat)) (sols p [cl[i]]) ∧ Big (fun k => impl_solutions.f k p [((rde cl i).1, (rde cl i).2.1, (rde cl i).2.2)]) (sols p [cl[i]]) := by
 have hg1 : good p [cl[i]] := fun c hc => by
  rw [List.mem_singleton] at hc
  subst hc
  exact hg _ (List.getElem_mem h)
 rw [Int.toNat_natCast, Int.toNat_natCast, take_drop_one cl i h, rdT_nat cl i h]
 exact ⟨pzAll_at p hp _ (by simp) hg1, solutions_at p hp _ (by simp) hg1⟩
theorem best_l (p : Int) (hp : 2 ≤ p ∧ p ≤ 3) (cl : List (Int × Int × Int)) (hg : good p cl) (hl : cl.length ≤ 6) (d : Nat) : ∀ (i : Nat) (b n : Int), 1 ≤ i → i + d = cl.length → 0 ≤ n → 0 ≤ b ∧ b < (cl.length : Int) → ∃ r : Int, (0 ≤ r ∧ r < (cl.length : Int)) ∧ Big (fun k => spec_BestClue.l0 k b n (cl.length : Int) i p cl) (r, true) ∧ Big (fun k => impl_BestClue.l0 k b n cl (cl.length : Int) i p cl) (r, true) := by
 induction d with
 | zero =>
  intro i b n _ hi _ hb
  refine ⟨b, hb, Big.succ ?_, Big.succ ?_⟩
  ·simp only [spec_BestClue.l0, if_neg (show ¬ (i : Int) < (cl.length : Int) by omega)]
   exact Big.some_ _
  ·simp only [impl_BestClue.l0, if_neg (show ¬ (i : Int) < (cl.length : Int) by omega)]
   exact Big.some_ _
 | succ d ih =>
  intro i b n h1 hi hn hb
  obtain ⟨hs, hm⟩ := best_one p hp cl hg i (by omega)
  obtain ⟨r, hr, hR1, hR2⟩ : ∃ r : Int, (0 ≤ r ∧ r < (cl.length : Int)) ∧ Big (fun k => if ((sols p [cl[i]]).length : Int) < n then spec_BestClue.l0 k i ((sols p [cl[i]]).length : Int) (cl.length : Int) ((i + 1 : Nat) : Int) p cl else spec_BestClue.l0 k b n (cl.length : Int) ((i + 1 : Nat) : Int) p cl) (r, true) ∧ Big (fun k => if ((sols p [cl[i]]).length : Int) < n then impl_BestClue.l0 k i ((sols p [cl[i]]).length : Int) cl (cl.length : Int) ((i + 1 : Nat) : Int) p cl else impl_BestClue.l0 k b n cl (cl.length : Int) ((i + 1 : Nat) : Int) p cl) (r, true) := by
   by_cases hlt : ((sols p [cl[i]]).length : Int) < n
   ·simp only [if_pos hlt]
    exact ih (i + 1) i _ (by omega) (by omega) (by omega) (by omega)
   ·simp only [if_neg hlt]
    exact ih (i + 1) b n (by omega) (by omega) hn hb
  refine ⟨r, hr, Big.succ ?_, Big.succ ?_⟩
  ·simp only [spec_BestClue.l0, w64n (show i < 9223372036854775807 by omega), if_pos (show (i : Int) < (cl.length : Int) by omega), if_pos (show 0 ≤ (i : Int) by omega), if_pos (show (i : Int) ≤ ((i + 1 : Nat) : Int) by omega), if_pos (show ((i + 1 : Nat) : Int) ≤ (cl.length : Int) by omega)]
   refine Big.bind hs ?_
   simp only [if_neg (show ¬ (i : Int) = 0 by omega)]
   exact hR1
  ·simp only [impl_BestClue.l0, w64n (show i < 9223372036854775807 by omega), if_pos (show (i : Int) < (cl.length : Int) by omega), if_pos (show 0 ≤ (i : Int) by omega)]
   refine Big.bind hm ?_
   simp only [if_neg (show ¬ n < 0 by omega)]
   exact hR2
theorem Best_at (p : Int) (cl : List (Int × Int × Int)) : ∃ (r : Int) (ok : Bool), Big (fun k => spec_BestClue.f k (p, cl)) (r, ok) ∧ Big (fun k => impl_BestClue.f k (p, cl)) (r, ok) ∧ ok = (puz p cl && !(cl.length == 0)) ∧ (ok = true → 0 ≤ r ∧ r < (cl.length : Int)) := by
 have no : Big (fun k => spec_BestClue.j0 k true p cl) (0, false) := Big.succ (by simp only [spec_BestClue.j0, if_true]; exact Big.some_ _)
 have no' : Big (fun k => impl_BestClue.j0 k true p cl) (0, false) := Big.succ (by simp only [impl_BestClue.j0, if_true]; exact Big.some_ _)
 unfold spec_BestClue.f impl_BestClue.f
 have a := pzGood_at p cl
 have b := IsPuzzle_at p cl
 cases h : puz p cl
 ·rw [h] at a b
  exact ⟨0, false, Big.bind a (Big.neg Bool.false_ne_true no), Big.bind b (Big.neg Bool.false_ne_true no'), rfl, fun hh => by cases hh⟩
 ·rw [h] at a b
  obtain ⟨hp, hl, hg⟩ := puz_good h
  by_cases h0 : cl.length = 0
  ·have e0 : ((cl.length : Int) == 0) = true := beq_iff_eq.mpr (by omega)
   rw [beq_iff_eq.mpr h0]
   refine ⟨0, false, Big.bind a (Big.pos rfl ?_), Big.bind b (Big.pos rfl ?_), rfl, fun hh => by cases hh⟩
   ·simp only [e0]; exact no
   ·simp only [e0]; exact no'
  ·have e0 : ((cl.length : Int) == 0) = false := beq_eq_false_iff_ne.mpr (by omega)
   rw [beq_eq_false_iff_ne.mpr h0]
   obtain ⟨hs, hm⟩ := best_one p hp cl hg 0 (by omega)
   obtain ⟨r, hr, hR1, hR2⟩ := best_l p hp cl hg hl (cl.length - 1) 1 0 ((sols p [cl[0]]).length : Int) (by omega) (by omega) (by omega) (by omega)
   refine ⟨r, true, Big.bind a (Big.pos rfl ?_), Big.bind b (Big.pos rfl ?_), rfl, fun _ => hr⟩
   ·simp only [e0]
    refine Big.succ ?_
    simp only [spec_BestClue.j0, Bool.false_eq_true, if_false]
    refine Big.succ ?_
    simp only [spec_BestClue.l0, show IntKind.i64.wrap (0 + 1) = ((0 + 1 : Nat) : Int) from w64n (i := 0) (by decide), if_pos (show (0 : Int) < (cl.length : Int) by omega), if_pos (show (0 : Int) ≤ 0 by omega), if_pos (show (0 : Int) ≤ ((0 + 1 : Nat) : Int) by omega), if_pos (show ((0 + 1 : Nat) : Int) ≤ (cl.length : Int) by omega)]
    refine Big.bind hs ?_
    simp only [if_true]
    exact hR1
   ·simp only [e0]
    refine Big.succ ?_
    simp only [impl_BestClue.j0, Bool.false_eq_true, if_false]
    refine Big.succ ?_
    simp only [impl_BestClue.l0, show IntKind.i64.wrap (0 + 1) = ((0 + 1 : Nat) : Int) from w64n (i := 0) (by decide), if_pos (show (0 : Int) < (cl.length : Int) by omega), if_pos (show (0 : Int) ≤ 0 by omega)]
    refine Big.bind hm ?_
    simp only [if_pos (show (-1 : Int) < 0 by decide)]
    exact hR2
end Go.Proofs.YtecdijlfnnminaaGreatDoor.Q
set_option linter.all false
namespace Go.Proofs.YtecdijlfnnminaaGreatDoor.Q
open Go.RowKit Go Go.Proofs.YtecdijlfnnminaaGreatDoor.Eng Go.Proofs.YtecdijlfnnminaaGreatDoor Go.Proofs.YtecdijlfnnminaaGreatDoor.Y
set_option linter.unusedSimpArgs false

theorem rde_mem {l : List Int} {i : Nat} (h : i < l.length) : rde l (i : Int) ∈ l := by
 rw [rde_nat l i h]
 exact List.getElem_mem h
theorem mul_b {a b m n : Int} (ha : 0 ≤ a ∧ a ≤ m) (hb : 0 ≤ b ∧ b ≤ n) : 0 ≤ a * b ∧ a * b ≤ m * n := ⟨Int.mul_nonneg ha.1 hb.1, Int.mul_le_mul ha.2 hb.2 hb.1 (by omega)⟩
theorem hid_cases {l : List Int} (h : hid l = true) : (∃ x y, l = [x, y] ∧ (1 ≤ x ∧ x ≤ 12) ∧ (1 ≤ y ∧ y ≤ 12)) ∨ ∃ x y z, l = [x, y, z] ∧ (1 ≤ x ∧ x ≤ 12) ∧ (1 ≤ y ∧ y ≤ 12) ∧ (1 ≤ z ∧ z ≤ 12) := by
 obtain ⟨hl, hb⟩ := hid_iff.mp h
 match l, hl with
 | [x, y], _ => exact .inl ⟨x, y, rfl, hb x (by simp), hb y (by simp)⟩
 | [x, y, z], _ => exact .inr ⟨x, y, z, rfl, hb x (by simp), hb y (by simp), hb z (by simp)⟩
theorem sum_b {l : List Int} (h : hid l = true) : 0 ≤ sumW 0 l ∧ sumW 0 l ≤ 2000 := by
 rcases hid_cases h with ⟨x, y, rfl, hx, hy⟩ | ⟨x, y, z, rfl, hx, hy, hz⟩
 ·simp only [sumW]
  rw [w64 (i := 0 + x) (by omega) (by omega), w64 (by omega) (by omega)]
  omega
 ·simp only [sumW]
  rw [w64 (i := 0 + x) (by omega) (by omega), w64 (i := 0 + x + y) (by omega) (by omega), w64 (by omega) (by omega)]
  omega
theorem prod_b {l : List Int} (h : hid l = true) : 0 ≤ prodW 1 l ∧ prodW 1 l ≤ 2000 := by
 rcases hid_cases h with ⟨x, y, rfl, hx, hy⟩ | ⟨x, y, z, rfl, hx, hy, hz⟩
 ·have h1 := mul_b (a := x) (b := y) (m := 12) (n := 12) (by omega) (by omega)
  simp only [prodW, Int.one_mul]
  rw [w64 (i := x) (by omega) (by omega), w64 (by omega) (by omega)]
  omega
 ·have h1 := mul_b (a := x) (b := y) (m := 12) (n := 12) (by omega) (by omega)
  have h2 := mul_b (a := x * y) (b := z) (m := 144) (n := 12) (by omega) (by omega)
  simp only [prodW, Int.one_mul]
  rw [w64 (i := x) (by omega) (by omega), w64 (i := x * y) (by omega) (by omega), w64 (by omega) (by omega)]
  omega
theorem cnt_l : ∀ (l : List Int) (acc : Int), 0 ≤ acc → acc + l.length ≤ 1000000 → acc ≤ cntW acc l ∧ cntW acc l ≤ acc + l.length
 | [], acc, _, _ => by simp [cntW]
 | b :: t, acc, h0, h1 => by
  rw [List.length_cons] at h1 ⊢
  unfold cntW
  split
  ·rw [w64 (by omega) (by omega)]
   have := cnt_l t (acc + 1) (by omega) (by omega)
   omega
  ·have := cnt_l t acc h0 (by omega)
   omega
theorem cnt_b {l : List Int} (h : hid l = true) : 0 ≤ cntW 0 l ∧ cntW 0 l ≤ 2000 := by
 have hl := (hid_iff.mp h).1
 have := cnt_l l 0 (by omega) (by omega)
 omega
/-- What the value of a kind is, is fit for a clue. -/
theorem val_b {l : List Int} (h : hid l = true) {K A : Int} (hK : 0 ≤ K ∧ K ≤ 5) (hA : okA (l.length : Int) K A) : (0 ≤ valN K A l ∧ valN K A l ≤ 2000) ∧ (K = 3 ∨ K = 5 → valN K A l < 2) := by
 obtain ⟨hl, hb⟩ := hid_iff.mp h
 unfold valN
 by_cases h0 : K = 0
 ·rw [if_pos h0]
  exact ⟨sum_b h, by omega⟩
 ·rw [if_neg h0]
  by_cases h1 : K = 1
  ·rw [if_pos h1]
   have := hb _ (rd_mem2 (l := l) hA.1 (hA.2.1 (.inl h1)))
   exact ⟨by omega, by omega⟩
  ·rw [if_neg h1]
   by_cases h2 : K = 2
   ·rw [if_pos h2]
    exact ⟨prod_b h, by omega⟩
   ·rw [if_neg h2]
    by_cases h3 : K = 3
    ·rw [if_pos h3]
     split <;> exact ⟨by omega, by omega⟩
    ·rw [if_neg h3]
     by_cases h4 : K = 4
     ·rw [if_pos h4]
      exact ⟨cnt_b h, by omega⟩
     ·rw [if_neg h4]
      split <;> exact ⟨by omega, by omega⟩
theorem clue_made {l : List Int} (h : hid l = true) {K A : Int} (hK : 0 ≤ K ∧ K ≤ 5) (hA : okA (l.length : Int) K A) (he : K = 0 ∨ K = 2 ∨ K = 4 → A = 0) : clueB (l.length : Int) K A (valN K A l) = true ∧ fitN K A (valN K A l) l = true := by
 obtain ⟨v1, v2⟩ := val_b h hK hA
 refine ⟨?_, ?_⟩
 ·unfold clueB
  rw [Bool.and_eq_true, inR_iff]
  refine ⟨v1, ?_⟩
  by_cases h0 : K = 0 ∨ K = 2 ∨ K = 4
  ·rw [if_pos h0, beq_iff_eq]
   exact he h0
  ·rw [if_neg h0]
   by_cases h1 : K = 1
   ·rw [if_pos h1, inR_iff]
    have h2 := hA.2.1 (.inl h1)
    have := hA.1
    omega
   ·rw [if_neg h1, if_pos (show K = 3 ∨ K = 5 by omega), Bool.and_eq_true, inR_iff, decide_eq_true_iff]
    have h2 := hA.2.1 (by omega)
    have h3 := v2 (by omega)
    have := hA.1
    omega
 ·unfold fitN
  rw [if_neg (by omega)]
  simp
end Go.Proofs.YtecdijlfnnminaaGreatDoor.Q
set_option linter.all false
namespace Go.Proofs.YtecdijlfnnminaaGreatDoor.Q
open Go.RowKit Go Go.Proofs.YtecdijlfnnminaaGreatDoor.Eng Go.Proofs.YtecdijlfnnminaaGreatDoor Go.Proofs.YtecdijlfnnminaaGreatDoor.Y
set_option linter.unusedSimpArgs false

/-- DoesFit at a clue that is one. -/
theorem DoesFit_at (K A B : Int) (l : List Int) (h : hid l = true) (hc : clueB (l.length : Int) K A B = true) : Big (fun k => impl_DoesFit.f k (K, A, B) l) (fitN K A B l, true) := by
 have hl := (hid_iff.mp h).1
 have hI := IsClue_at (l.length : Int) K A B
 rw [inR_iff.mpr (show 2 ≤ (l.length : Int) ∧ (l.length : Int) ≤ 3 by omega), Bool.true_and, hc] at hI
 unfold impl_DoesFit.f
 rw [v_areHidden l (by omega), h]
 exact Big.bind (Big.some_ _) (Big.pos rfl (Big.bind hI (Big.pos rfl (Big.bind (fits_at K A B l h hc) (Big.some_ _)))))
end Go.Proofs.YtecdijlfnnminaaGreatDoor.Q
set_option linter.all false
namespace Go.Proofs.YtecdijlfnnminaaGreatDoor.Q
open Go.RowKit Go Go.Proofs.YtecdijlfnnminaaGreatDoor.Eng Go.Proofs.YtecdijlfnnminaaGreatDoor Go.Proofs.YtecdijlfnnminaaGreatDoor.Y
set_option linter.unusedSimpArgs false

def mkN (z : Int) : Int := Int.tmod (IntKind.i64.wrap (IntKind.i64.wrap (z * 299) + 811)) 10007
def mkW (K y : Int) (l : List Int) : Int := if Int.tmod K 2 = 1 then Int.tmod y (l.length : Int) else 0
theorem mk_nx {z : Int} (h : 0 ≤ z ∧ z ≤ 10006) : 0 ≤ mkN z ∧ mkN z ≤ 10006 := by
 unfold mkN
 rw [show IntKind.i64.wrap (z * 299) = z * 299 from w64 (by omega) (by omega), show IntKind.i64.wrap (z * 299 + 811) = z * 299 + 811 from w64 (by omega) (by omega)]
 have h1 := Int.tmod_nonneg 10007 (show 0 ≤ z * 299 + 811 by omega)
 have h2 := Int.tmod_lt_of_pos (z * 299 + 811) (show (0 : Int) < 10007 by decide)
 omega
theorem v_pzNext (z : Int) : spec_pzNext.f z = some (mkN z) := by
 unfold spec_pzNext.f mkN
 rw [Int.mul_comm]
theorem pzOf_at (K y : Int) (l : List Int) (h : hid l = true) (hK : 0 ≤ K ∧ K ≤ 5) (hy : 0 ≤ y) : okA (l.length : Int) K (mkW K y l) ∧ mkW K y l ≤ 9 ∧ (K = 0 ∨ K = 2 ∨ K = 4 → mkW K y l = 0) ∧ Big (fun k => spec_pzOf.f k K y l) (K, mkW K y l, valN K (mkW K y l) l) := by
 have hl := (hid_iff.mp h).1
 have hn : ¬ (l.length : Int) = 0 := by omega
 have t1 := Int.tmod_nonneg (l.length : Int) hy
 have t2 := Int.tmod_lt_of_pos y (show (0 : Int) < (l.length : Int) by omega)
 have odd : ∀ q : Int, q = 1 ∨ q = 3 ∨ q = 5 → mkW q y l = Int.tmod y (l.length : Int) := by
  intro q hq
  unfold mkW
  rw [if_pos]
  rcases hq with rfl | rfl | rfl <;> rfl
 have even : ∀ q : Int, q = 0 ∨ q = 2 ∨ q = 4 → mkW q y l = 0 := by
  intro q hq
  unfold mkW
  rw [if_neg]
  rcases hq with rfl | rfl | rfl <;> decide
 unfold spec_pzOf.f
 by_cases h1 : K = 1
 ·subst h1
  have ok : okA (l.length : Int) 1 (Int.tmod y (l.length : Int)) := ⟨t1, fun _ => t2, fun hh => absurd hh (by decide)⟩
  rw [odd 1 (by omega)]
  refine ⟨ok, by omega, by omega, ?_⟩
  simp only [if_true, if_neg hn]
  exact Big.bind (pzValue_at 1 _ l h (by omega) ok) (Big.some_ _)
 by_cases h3 : K = 3
 ·subst h3
  have ok : okA (l.length : Int) 3 (Int.tmod y (l.length : Int)) := ⟨t1, fun _ => t2, fun hh => absurd hh (by decide)⟩
  rw [odd 3 (by omega)]
  refine ⟨ok, by omega, by omega, ?_⟩
  simp only [if_neg (show ¬ (3 : Int) = 1 by decide), if_true, if_neg hn]
  exact Big.bind (pzValue_at 3 _ l h (by omega) ok) (Big.some_ _)
 by_cases h5 : K = 5
 ·subst h5
  have ok : okA (l.length : Int) 5 (Int.tmod y (l.length : Int)) := ⟨t1, fun _ => t2, fun hh => absurd hh (by decide)⟩
  rw [odd 5 (by omega)]
  refine ⟨ok, by omega, by omega, ?_⟩
  simp only [if_neg (show ¬ (5 : Int) = 1 by decide), if_neg (show ¬ (5 : Int) = 3 by decide), if_true, if_neg hn]
  exact Big.bind (pzValue_at 5 _ l h (by omega) ok) (Big.some_ _)
 ·have ok : okA (l.length : Int) K 0 := ⟨by omega, fun _ => by omega, fun _ => by omega⟩
  rw [even K (by omega)]
  refine ⟨ok, by omega, fun _ => rfl, ?_⟩
  simp only [if_neg h1, if_neg h3, if_neg h5]
  exact Big.bind (pzValue_at K 0 l h (by omega) ok) (Big.some_ _)
theorem makeS_l (l : List Int) (h : hid l = true) (m : Nat) (hm : m ≤ 6) (n : Nat) : ∀ (z : Int) (acc : List (Int × Int × Int)) (a : Int) (b : List (Int × Int × Int)), 0 ≤ z ∧ z ≤ 10006 → acc.length + n = m → good (l.length : Int) acc → ∃ C : List (Int × Int × Int), C.length = m ∧ good (l.length : Int) C ∧ Big (fun k => spec_MakePuzzle.l0 k l (n : Int) z a b (l.length : Int) acc) (((l.length : Int), C), true) := by
 have hl := (hid_iff.mp h).1
 induction n with
 | zero =>
  intro z acc a b hz ha hc
  refine ⟨acc, by omega, hc, Big.succ ?_⟩
  unfold spec_MakePuzzle.l0
  exact Big.neg (by omega) (Big.some_ _)
 | succ n ih =>
  intro z acc a b hz ha hc
  have z1 := mk_nx hz
  have z2 := mk_nx z1
  have k1 := Int.tmod_nonneg 6 z1.1
  have k2 := Int.tmod_lt_of_pos (mkN z) (show (0 : Int) < 6 by decide)
  obtain ⟨ok, hw9, hev, hof⟩ := pzOf_at (Int.tmod (mkN z) 6) (mkN (mkN z)) l h (by omega) z2.1
  have hfit := clue_made h (show 0 ≤ Int.tmod (mkN z) 6 ∧ Int.tmod (mkN z) 6 ≤ 5 by omega) ok hev
  obtain ⟨C, c1, c2, h1⟩ := ih (mkN (mkN z)) (acc ++ [(Int.tmod (mkN z) 6, mkW (Int.tmod (mkN z) 6) (mkN (mkN z)) l, valN (Int.tmod (mkN z) 6) (mkW (Int.tmod (mkN z) 6) (mkN (mkN z)) l) l)]) a b z2 (by rw [List.length_append, List.length_singleton]; omega) (fun c hcm => by
   rcases List.mem_append.1 hcm with hh | hh
   ·exact hc c hh
   ·rw [List.mem_singleton] at hh
    subst hh
    exact hfit.1)
  refine ⟨C, c1, c2, Big.succ ?_⟩
  unfold spec_MakePuzzle.l0
  refine Big.pos (by omega) ?_
  rw [v_pzNext]
  refine Big.bind (Big.some_ _) ?_
  rw [v_pzNext]
  refine Big.bind (Big.some_ _) (Big.bind hof (Big.pos (by omega) ?_))
  rw [show IntKind.i64.wrap (((n + 1 : Nat) : Int) - 1) = (n : Int) by rw [w64 (by omega) (by omega)]; omega]
  exact h1
theorem MakeS_at (l : List Int) (a b : Int) (hl : l.length ≤ 1048576) : ∃ (P : Int) (C : List (Int × Int × Int)) (ok : Bool), C.length ≤ 6 ∧ (puz P C = true ∨ (P = 0 ∧ C = [])) ∧ Big (fun k => spec_MakePuzzle.f k l a b) ((P, C), ok) := by
 unfold spec_MakePuzzle.f
 have no : Big (fun k => spec_MakePuzzle.j0 k l a b true 0 []) ((0, []), false) := Big.succ (by unfold spec_MakePuzzle.j0; exact Big.pos rfl (Big.some_ _))
 have H := pzHidden_at l hl
 rw [v_l1In a, v_l1In b]
 cases h : hid l
 ·rw [h] at H
  exact ⟨0, [], false, by simp, .inr ⟨rfl, rfl⟩, Big.bind H (Big.neg (by decide) no)⟩
 ·rw [h] at H
  by_cases q1 : 0 ≤ a ∧ a ≤ 6
  ·by_cases q2 : 0 ≤ b ∧ b ≤ 9999
   ·obtain ⟨n, rfl⟩ : ∃ n : Nat, a = (n : Int) := ⟨a.toNat, by omega⟩
    obtain ⟨C, c1, c2, h1⟩ := makeS_l l h n (by omega) n b [] 0 [] (by omega) (by simp) (fun c hc => by cases hc)
    have hl := (hid_iff.mp h).1
    rw [inR_iff.mpr q1, inR_iff.mpr q2]
    refine ⟨(l.length : Int), C, true, by omega, .inl (puz_of (by omega) (by omega) c2), Big.bind H (Big.pos rfl (Big.bind (Big.some_ _) (Big.pos rfl (Big.bind (Big.some_ _) (Big.succ ?_)))))⟩
    unfold spec_MakePuzzle.j0
    exact Big.neg (by decide) h1
   ·rw [inR_iff.mpr q1, inR_not.mpr q2]
    exact ⟨0, [], false, by simp, .inr ⟨rfl, rfl⟩, Big.bind H (Big.pos rfl (Big.bind (Big.some_ _) (Big.pos rfl (Big.bind (Big.some_ _) no))))⟩
  ·rw [inR_not.mpr q1]
   exact ⟨0, [], false, by simp, .inr ⟨rfl, rfl⟩, Big.bind H (Big.pos rfl (Big.bind (Big.some_ _) (Big.neg (by decide) no)))⟩
end Go.Proofs.YtecdijlfnnminaaGreatDoor.Q
set_option linter.all false
namespace Go.Proofs.YtecdijlfnnminaaGreatDoor.Q
open Go.RowKit Go Go.Proofs.YtecdijlfnnminaaGreatDoor.Eng Go.Proofs.YtecdijlfnnminaaGreatDoor Go.Proofs.YtecdijlfnnminaaGreatDoor.Y
set_option linter.unusedSimpArgs false
set_option linter.unusedVariables false

theorem u64w (z : Int) : 0 ≤ IntKind.u64.wrap z ∧ IntKind.u64.wrap z < 18446744073709551616 := by
 have : IntKind.u64.wrap z = z % 18446744073709551616 := rfl
 rw [this]
 omega
theorem and255 (x : Int) (h0 : 0 ≤ x) (h1 : x < 18446744073709551616) : 0 ≤ Go.bits .and .u64 x 255 ∧ Go.bits .and .u64 x 255 ≤ 255 := by
 rw [u64_and x 255 h0 h1 (by omega) (by omega)]
 have : x.toNat &&& (255 : Int).toNat ≤ 255 := Nat.and_le_right
 omega
theorem bit255 (x : Int) : 0 ≤ bitI .and .u64 x 255 ∧ bitI .and .u64 x 255 ≤ 255 := by
 have h : bitI .and .u64 x 255 = IntKind.u64.wrap ((BitVec.ofInt 64 x &&& BitVec.ofInt 64 255).toNat : Int) := rfl
 have e : (BitVec.ofInt 64 x &&& BitVec.ofInt 64 255).toNat ≤ 255 := by
  rw [BitVec.toNat_and]
  exact Nat.le_trans Nat.and_le_right (by decide)
 rw [h]
 have := u64w (((BitVec.ofInt 64 x &&& BitVec.ofInt 64 255).toNat : Int))
 have h2 : IntKind.u64.wrap ((BitVec.ofInt 64 x &&& BitVec.ofInt 64 255).toNat : Int) = ((BitVec.ofInt 64 x &&& BitVec.ofInt 64 255).toNat : Int) % 18446744073709551616 := rfl
 rw [h2]
 omega
/-- Bytes. -/
def Byt (code : List Int) : Prop := (∀ x ∈ code, 0 ≤ x ∧ x ≤ 255) ∧ code.length ≤ 1048576
theorem next_at {code : List Int} (hc : Byt code) (a s : Int) (ha : 0 ≤ a ∧ a ≤ 2000000) : ∃ v s', spec_l1Cur_next.f code a s = some (v, code, a + 1, s') ∧ 0 ≤ v ∧ v ≤ 255 := by
 have hw : IntKind.i64.wrap (a + 1) = a + 1 := w64 (by omega) (by omega)
 unfold spec_l1Cur_next.f
 rw [hw]
 have hl := hc.2
 by_cases h : a < (code.length : Int)
 ·have hm : 0 ≤ rde code a ∧ rde code a ≤ 255 := by
   obtain ⟨n, rfl⟩ : ∃ n : Nat, a = (n : Int) := ⟨a.toNat, by omega⟩
   rw [rd_nat, List.getD_eq_getElem?_getD, List.getElem?_eq_getElem (show n < code.length by omega), Option.getD_some]
   exact hc.1 _ (List.getElem_mem _)
  rw [if_pos h, if_pos ha.1, if_pos (by omega)]
  refine ⟨_, _, rfl, ?_⟩
  rw [w64 (i := rde code a) (by omega) (by omega)]
  exact hm
 ·rw [if_neg h, if_neg (by omega)]
  refine ⟨_, _, rfl, ?_⟩
  have h2 := bit255 (shrI .u64 (IntKind.u64.wrap (IntKind.u64.wrap (IntKind.u64.wrap (s * 6364136223846793005) + IntKind.u64.wrap 0) + 1442695040888963407)) 40)
  rw [w64 (by omega) (by omega)]
  exact h2
theorem tmod_in (x n : Int) (h0 : 0 ≤ x) (hn : 0 < n) : 0 ≤ Int.tmod x n ∧ Int.tmod x n < n := by
 rw [Int.tmod_eq_emod_of_nonneg h0]
 exact ⟨Int.emod_nonneg _ (by omega), Int.emod_lt_of_pos _ hn⟩
theorem pick_at {code : List Int} (hc : Byt code) (a s n : Int) (ha : 0 ≤ a ∧ a ≤ 1900000) (hn : 1 ≤ n) : ∃ v a' s', spec_l1Cur_pick.f code a s n = some (v, code, a', s') ∧ (0 ≤ v ∧ v < n) ∧ a ≤ a' ∧ a' ≤ a + 2 := by
 unfold spec_l1Cur_pick.f
 by_cases h1 : n ≤ 1
 ·rw [if_pos h1]
  exact ⟨0, a, s, rfl, by omega, by omega, by omega⟩
 ·rw [if_neg h1]
  obtain ⟨v, s1, e1, hv⟩ := next_at hc a s (by omega)
  rw [e1, Option.bind_some]
  by_cases h2 : n > 200
  ·rw [if_pos h2]
   obtain ⟨v2, s2, e2, hv2⟩ := next_at hc (a + 1) s1 (by omega)
   rw [e2, Option.bind_some, if_neg (by omega)]
   refine ⟨_, _, _, rfl, ?_, by show a ≤ a + 1 + 1; omega, by show a + 1 + 1 ≤ a + 2; omega⟩
   show 0 ≤ Int.tmod (IntKind.i64.wrap (IntKind.i64.wrap (v * 256) + v2)) n ∧ _
   rw [w64 (i := v * 256) (by omega) (by omega), w64 (by omega) (by omega)]
   exact tmod_in _ _ (by omega) (by omega)
  ·rw [if_neg h2, if_neg (by omega)]
   exact ⟨_, _, _, rfl, tmod_in _ _ hv.1 (by omega), by show a ≤ a + 1; omega, by show a + 1 ≤ a + 2; omega⟩
theorem one_at {code : List Int} (hc : Byt code) (a s n : Int) (ha : 0 ≤ a ∧ a ≤ 1900000) (hn : 1 ≤ n) : ∃ v a' s', spec_l1Cur_one.f code a s n = some (v, code, a', s') ∧ a ≤ a' ∧ a' ≤ a + 2 := by
 obtain ⟨v, a', s', e, _, h1, h2⟩ := pick_at hc a s n ha hn
 unfold spec_l1Cur_one.f
 rw [e]
 exact ⟨_, _, _, rfl, h1, h2⟩
theorem among_at {code : List Int} (hc : Byt code) (a s : Int) (l : List Int) (ha : 0 ≤ a ∧ a ≤ 1900000) (hn : 1 ≤ l.length) : ∃ v a' s', spec_l1Cur_among.f code a s l = some (v, code, a', s') ∧ v ∈ l ∧ a ≤ a' ∧ a' ≤ a + 2 := by
 obtain ⟨v, a', s', e, hv, h1, h2⟩ := pick_at hc a s (l.length : Int) ha (by omega)
 unfold spec_l1Cur_among.f
 rw [e, Option.bind_some, if_pos hv.1, if_pos hv.2]
 refine ⟨_, _, _, rfl, ?_, h1, h2⟩
 obtain ⟨n, rfl⟩ : ∃ n : Nat, v = (n : Int) := ⟨v.toNat, by omega⟩
 show rde l (n : Int) ∈ l
 rw [rd_nat, List.getD_eq_getElem?_getD, List.getElem?_eq_getElem (show n < l.length by omega), Option.getD_some]
 exact List.getElem_mem _
theorem hidden_at {code : List Int} (hc : Byt code) (a s : Int) (ha : 0 ≤ a ∧ a ≤ 1800000) : ∃ L a' s', hid L = true ∧ spec_l1Cur_hidden.f code a s = some (L, code, a', s') ∧ a ≤ a' ∧ a' ≤ a + 8 := by
 obtain ⟨x, a1, s1, e1, hx, h1, h2⟩ := pick_at hc a s 12 (by omega) (by omega)
 obtain ⟨y, a2, s2, e2, hy, h3, h4⟩ := pick_at hc a1 s1 12 (by omega) (by omega)
 obtain ⟨b, a3, s3, e3, h5, h6⟩ := one_at hc a2 s2 3 (by omega) (by omega)
 unfold spec_l1Cur_hidden.f
 simp only [e1, e2, e3, Option.bind_some]
 rw [w64 (i := 1 + x) (by omega) (by omega), w64 (i := 1 + y) (by omega) (by omega)]
 cases b
 ·refine ⟨[1 + x, 1 + y], a3, s3, hid_iff.mpr ⟨by simp, fun z hz => ?_⟩, by rw [if_neg (by decide)], by omega, by omega⟩
  simp only [List.mem_cons, List.mem_nil_iff, or_false] at hz
  omega
 ·obtain ⟨z, a4, s4, e4, hz, h7, h8⟩ := pick_at hc a3 s3 12 (by omega) (by omega)
  refine ⟨[1 + x, 1 + y, 1 + z], a4, s4, hid_iff.mpr ⟨by simp, fun u hu => ?_⟩, ?_, by omega, by omega⟩
  ·simp only [List.mem_cons, List.mem_nil_iff, or_false] at hu
   omega
  ·rw [if_pos rfl, e4, Option.bind_some, if_pos (by show 2 < _; decide)]
   dsimp only
   rw [w64 (i := 1 + z) (by omega) (by omega)]
   rfl
theorem hid_len {L : List Int} (h : hid L = true) : L.length ≤ 3 := (hid_iff.mp h).1.2
theorem surePuzzle_at {code : List Int} (hc : Byt code) (a s m : Int) (hm : 0 ≤ m ∧ m ≤ 100) (ha : 0 ≤ a ∧ a ≤ 1700000) : ∃ P C a' s', C.length ≤ 6 ∧ Big (fun k => spec_l1Cur_surePuzzle.f k code a s m) ((P, C), code, a', s') ∧ a ≤ a' ∧ a' ≤ a + 12 := by
 obtain ⟨L, a1, s1, hL, e1, h1, h2⟩ := hidden_at hc a s (by omega)
 obtain ⟨x, a2, s2, e2, hx, h3, h4⟩ := pick_at hc a1 s1 (m + 1) (by omega) (by omega)
 obtain ⟨y, a3, s3, e3, hy, h5, h6⟩ := pick_at hc a2 s2 10000 (by omega) (by omega)
 obtain ⟨P, C, ok, h7, _, hB⟩ := MakeS_at L x y (by have := hid_len hL; omega)
 refine ⟨P, C, a3, s3, h7, ?_, by omega, by omega⟩
 unfold spec_l1Cur_surePuzzle.f
 rw [w64 (i := m + 1) (by omega) (by omega)]
 exact Big.bind (Big.of e1) (Big.bind (Big.of e2) (Big.bind (Big.of e3) (Big.bind hB (Big.some_ _))))
theorem clue_j0 {code : List Int} (hc : Byt code) (b0 b1 b2 c0 c1 c2 a s : Int) (ha : 0 ≤ a ∧ a ≤ 1800000) : ∃ c a' s', Big (fun k => spec_l1Cur_clue.j0 k b0 b1 b2 c0 c1 c2 code a s) (c, code, a', s') ∧ a ≤ a' ∧ a' ≤ a + 4 := by
 obtain ⟨b, a1, s1, e1, h1, h2⟩ := one_at hc a s 14 (by omega) (by omega)
 cases b
 ·refine ⟨(c0, c1, c2), a1, s1, Big.succ ?_, by omega, by omega⟩
  unfold spec_l1Cur_clue.j0
  exact Big.bind (Big.of e1) (Big.neg Bool.false_ne_true (Big.some_ _))
 ·obtain ⟨x, a2, s2, e2, hx, h3, h4⟩ := pick_at hc a1 s1 3 (by omega) (by omega)
  refine ⟨(c0, IntKind.i64.wrap (x - 1), c2), a2, s2, Big.succ ?_, by omega, by omega⟩
  unfold spec_l1Cur_clue.j0
  exact Big.bind (Big.of e1) (Big.pos rfl (Big.bind (Big.of e2) (Big.some_ _)))
theorem clue_j1 {code : List Int} (hc : Byt code) (x : Int) (t : Bool) (b0 b1 b2 c0 c1 c2 a s : Int) (ha : 0 ≤ a ∧ a ≤ 1700000) : ∃ c a' s', Big (fun k => spec_l1Cur_clue.j1 k x t b0 b1 b2 c0 c1 c2 code a s) (c, code, a', s') ∧ a ≤ a' ∧ a' ≤ a + 8 := by
 cases t
 ·by_cases h4 : x = 4
  ·obtain ⟨y, a1, s1, e1, hy, h1, h2⟩ := pick_at hc a s 4 (by omega) (by omega)
   obtain ⟨c, a2, s2, hB, h3, h5⟩ := clue_j0 hc b0 b1 b2 c0 c1 y a1 s1 (by omega)
   refine ⟨c, a2, s2, Big.succ ?_, by omega, by omega⟩
   unfold spec_l1Cur_clue.j1
   exact Big.neg Bool.false_ne_true (Big.pos h4 (Big.bind (Big.of e1) hB))
  ·by_cases h6 : x = 6
   ·obtain ⟨y, a1, s1, e1, hy, h1, h2⟩ := pick_at hc a s 11 (by omega) (by omega)
    obtain ⟨z, a2, s2, e2, hz, h3, h5⟩ := pick_at hc a1 s1 10 (by omega) (by omega)
    obtain ⟨c, a3, s3, hB, h7, h8⟩ := clue_j0 hc b0 b1 b2 c0 y (IntKind.i64.wrap (1 + z)) a2 s2 (by omega)
    refine ⟨c, a3, s3, Big.succ ?_, by omega, by omega⟩
    unfold spec_l1Cur_clue.j1
    exact Big.neg Bool.false_ne_true (Big.neg h4 (Big.pos h6 (Big.bind (Big.of e1) (Big.bind (Big.of e2) hB))))
   ·obtain ⟨c, a3, s3, hB, h7, h8⟩ := clue_j0 hc b0 b1 b2 c0 c1 c2 a s (by omega)
    refine ⟨c, a3, s3, Big.succ ?_, by omega, by omega⟩
    unfold spec_l1Cur_clue.j1
    exact Big.neg Bool.false_ne_true (Big.neg h4 (Big.neg h6 hB))
 ·obtain ⟨y, a1, s1, e1, hy, h1, h2⟩ := pick_at hc a s 4 (by omega) (by omega)
  obtain ⟨z, a2, s2, e2, hz, h3, h5⟩ := pick_at hc a1 s1 3 (by omega) (by omega)
  obtain ⟨c, a3, s3, hB, h7, h8⟩ := clue_j0 hc b0 b1 b2 c0 y z a2 s2 (by omega)
  refine ⟨c, a3, s3, Big.succ ?_, by omega, by omega⟩
  unfold spec_l1Cur_clue.j1
  exact Big.pos rfl (Big.bind (Big.of e1) (Big.bind (Big.of e2) hB))
theorem clue_at {code : List Int} (hc : Byt code) (a s : Int) (ha : 0 ≤ a ∧ a ≤ 1600000) : ∃ c a' s', Big (fun k => spec_l1Cur_clue.f k code a s) (c, code, a', s') ∧ a ≤ a' ∧ a' ≤ a + 20 := by
 obtain ⟨x1, a1, s1, e1, _, h1, h2⟩ := pick_at hc a s 7 (by omega) (by omega)
 obtain ⟨x2, a2, s2, e2, _, h3, h4⟩ := pick_at hc a1 s1 9 (by omega) (by omega)
 obtain ⟨x3, a3, s3, e3, _, h5, h6⟩ := pick_at hc a2 s2 24 (by omega) (by omega)
 obtain ⟨x4, a4, s4, e4, _, h7, h8⟩ := pick_at hc a3 s3 9 (by omega) (by omega)
 by_cases hk : IntKind.i64.wrap (x1 + IntKind.i64.wrap (Int.tdiv x2 8)) = 1
 ·obtain ⟨x5, a5, s5, e5, _, h9, h10⟩ := pick_at hc a4 s4 4 (by omega) (by omega)
  obtain ⟨c, a6, s6, hB, h11, h12⟩ := clue_j0 hc 0 0 0 (IntKind.i64.wrap (x1 + IntKind.i64.wrap (Int.tdiv x2 8))) x5 (IntKind.i64.wrap (x3 - IntKind.i64.wrap (Int.tdiv x4 8))) a5 s5 (by omega)
  refine ⟨c, a6, s6, ?_, by omega, by omega⟩
  unfold spec_l1Cur_clue.f
  exact Big.bind (Big.of e1) (Big.bind (Big.of e2) (Big.bind (Big.of e3) (Big.bind (Big.of e4) (Big.pos hk (Big.bind (Big.of e5) hB)))))
 ·by_cases h3' : IntKind.i64.wrap (x1 + IntKind.i64.wrap (Int.tdiv x2 8)) = 3
  ·obtain ⟨c, a6, s6, hB, h11, h12⟩ := clue_j1 hc (IntKind.i64.wrap (x1 + IntKind.i64.wrap (Int.tdiv x2 8))) (IntKind.i64.wrap (x1 + IntKind.i64.wrap (Int.tdiv x2 8)) == 3) 0 0 0 (IntKind.i64.wrap (x1 + IntKind.i64.wrap (Int.tdiv x2 8))) 0 (IntKind.i64.wrap (x3 - IntKind.i64.wrap (Int.tdiv x4 8))) a4 s4 (by omega)
   refine ⟨c, a6, s6, ?_, by omega, by omega⟩
   unfold spec_l1Cur_clue.f
   exact Big.bind (Big.of e1) (Big.bind (Big.of e2) (Big.bind (Big.of e3) (Big.bind (Big.of e4) (Big.neg hk (Big.pos h3' hB)))))
  ·obtain ⟨c, a6, s6, hB, h11, h12⟩ := clue_j1 hc (IntKind.i64.wrap (x1 + IntKind.i64.wrap (Int.tdiv x2 8))) (IntKind.i64.wrap (x1 + IntKind.i64.wrap (Int.tdiv x2 8)) == 5) 0 0 0 (IntKind.i64.wrap (x1 + IntKind.i64.wrap (Int.tdiv x2 8))) 0 (IntKind.i64.wrap (x3 - IntKind.i64.wrap (Int.tdiv x4 8))) a4 s4 (by omega)
   refine ⟨c, a6, s6, ?_, by omega, by omega⟩
   unfold spec_l1Cur_clue.f
   exact Big.bind (Big.of e1) (Big.bind (Big.of e2) (Big.bind (Big.of e3) (Big.bind (Big.of e4) (Big.neg hk (Big.neg h3' hB)))))
theorem puzzle_l {code : List Int} (hc : Byt code) (u : Int) (v : List (Int × Int × Int)) (P : Int) (n : Nat) : ∀ (C : List (Int × Int × Int)) (a s : Int), C.length + n = 7 → 0 ≤ a → a + 2 * (n : Int) + 2 ≤ 1800000 → ∃ C' a' s', C'.length ≤ 7 ∧ a ≤ a' ∧ a' ≤ a + 2 * (n : Int) + 2 ∧ Big (fun k => spec_l1Cur_puzzle.l0 k u v P C code a s) ((P, C'), code, a', s') := by
 induction n with
 | zero =>
  intro C a s hl h0 ha
  obtain ⟨x, a1, s1, e1, hx, h1, h2⟩ := pick_at hc a s 2 (by omega) (by omega)
  refine ⟨C, a1, s1, by omega, by omega, by omega, Big.succ ?_⟩
  unfold spec_l1Cur_puzzle.l0
  refine Big.bind (Big.of e1) (Big.neg ?_ (Big.some_ _))
  rw [w64 (i := 6 + x) (by omega) (by omega)]
  omega
 | succ n ih =>
  intro C a s hl h0 ha
  obtain ⟨x, a1, s1, e1, hx, h1, h2⟩ := pick_at hc a s 2 (by omega) (by omega)
  by_cases hlt : (C.length : Int) < 6 + x
  ·obtain ⟨C', a', s', k1, k2, k3, hB⟩ := ih (C ++ [(0, 0, 12)]) a1 s1 (by rw [List.length_append, List.length_singleton]; omega) (by omega) (by omega)
   refine ⟨C', a', s', k1, by omega, by omega, Big.succ ?_⟩
   unfold spec_l1Cur_puzzle.l0
   refine Big.bind (Big.of e1) (Big.pos ?_ (Big.pos (by omega) hB))
   rw [w64 (i := 6 + x) (by omega) (by omega)]
   exact hlt
  ·refine ⟨C, a1, s1, by omega, by omega, by omega, Big.succ ?_⟩
   unfold spec_l1Cur_puzzle.l0
   refine Big.bind (Big.of e1) (Big.neg ?_ (Big.some_ _))
   rw [w64 (i := 6 + x) (by omega) (by omega)]
   exact hlt
theorem puzzle_j {code : List Int} (hc : Byt code) (x : Int) (t : Bool) (u : Int) (v : List (Int × Int × Int)) (P : Int) (C : List (Int × Int × Int)) (hC : C.length ≤ 6) (a s : Int) (ha : 0 ≤ a ∧ a ≤ 1500000) : ∃ C' a' s', C'.length ≤ 7 ∧ a ≤ a' ∧ a' ≤ a + 40 ∧ Big (fun k => spec_l1Cur_puzzle.j0 k x t u v P C code a s) ((P, C'), code, a', s') := by
 cases t
 ·by_cases h3 : x = 3
  ·obtain ⟨C', a', s', k1, k2, k3, hB⟩ := puzzle_l hc u v P (7 - C.length) C a s (by omega) (by omega) (by omega)
   refine ⟨C', a', s', k1, k2, by omega, Big.succ ?_⟩
   unfold spec_l1Cur_puzzle.j0
   exact Big.neg Bool.false_ne_true (Big.pos h3 hB)
  ·refine ⟨C, a, s, by omega, by omega, by omega, Big.succ ?_⟩
   unfold spec_l1Cur_puzzle.j0
   exact Big.neg Bool.false_ne_true (Big.neg h3 (Big.some_ _))
 ·obtain ⟨c, a', s', hB, k1, k2⟩ := clue_at hc a s (by omega)
  refine ⟨C ++ [c], a', s', by rw [List.length_append, List.length_singleton]; omega, k1, by omega, Big.succ ?_⟩
  unfold spec_l1Cur_puzzle.j0
  exact Big.pos rfl (Big.bind hB (Big.pos (by omega) (Big.some_ _)))
theorem puzzle_at {code : List Int} (hc : Byt code) (a s : Int) (ha : 0 ≤ a ∧ a ≤ 1400000) : ∃ P C a' s', C.length ≤ 7 ∧ a ≤ a' ∧ a' ≤ a + 60 ∧ Big (fun k => spec_l1Cur_puzzle.f k code a s) ((P, C), code, a', s') := by
 obtain ⟨P, C, a1, s1, hC, hB, h1, h2⟩ := surePuzzle_at hc a s 4 (by omega) (by omega)
 obtain ⟨x, a2, s2, e2, hx, h3, h4⟩ := pick_at hc a1 s1 10 (by omega) (by omega)
 by_cases x0 : x = 0
 ·obtain ⟨q, a3, s3, e3, _, h5, h6⟩ := among_at hc a2 s2 [(-1), 0, 1, 2, 3, 4, 4611686018427387904] (by omega) (by simp)
  refine ⟨q, C, a3, s3, by omega, by omega, by omega, ?_⟩
  unfold spec_l1Cur_puzzle.f
  exact Big.bind hB (Big.bind (Big.of e2) (Big.pos x0 (Big.bind (Big.of e3) (Big.some_ _))))
 ·by_cases x1 : x = 1
  ·obtain ⟨C', a', s', k1, k2, k3, hJ⟩ := puzzle_j hc x (x == 1) 0 [] P C hC a2 s2 (by omega)
   refine ⟨P, C', a', s', k1, by omega, by omega, ?_⟩
   unfold spec_l1Cur_puzzle.f
   exact Big.bind hB (Big.bind (Big.of e2) (Big.neg x0 (Big.pos x1 hJ)))
  ·obtain ⟨C', a', s', k1, k2, k3, hJ⟩ := puzzle_j hc x (x == 2) 0 [] P C hC a2 s2 (by omega)
   refine ⟨P, C', a', s', k1, by omega, by omega, ?_⟩
   unfold spec_l1Cur_puzzle.f
   exact Big.bind hB (Big.bind (Big.of e2) (Big.neg x0 (Big.neg x1 hJ)))
end Go.Proofs.YtecdijlfnnminaaGreatDoor.Q
