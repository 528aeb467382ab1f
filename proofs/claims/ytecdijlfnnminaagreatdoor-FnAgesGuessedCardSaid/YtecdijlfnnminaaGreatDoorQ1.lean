/- Plain lemmas on functions that take a number of rounds: what such a function answers at all large numbers of rounds. No condition. -/
import Derived.Test.YtecdijlfnnminaaGreatDoorR0
set_option linter.all false
namespace Go.Proofs.YtecdijlfnnminaaGreatDoor.Q
open Go.RowKit Go Go.Proofs.YtecdijlfnnminaaGreatDoor.Eng Go.Proofs.YtecdijlfnnminaaGreatDoor Go.Proofs.YtecdijlfnnminaaGreatDoor.Y

/-- From some number of rounds on, the answer is r. -/
def Big {α : Type} (g : Nat → Option α) (r : α) : Prop := ∃ K, ∀ k, K ≤ k → g k = some r
theorem Big.bind {α β : Type} {g : Nat → Option α} {a : α} {h : Nat → α → Option β} {r : β} (h1 : Big g a) (h2 : Big (fun k => h k a) r) : Big (fun k => (g k).bind (h k)) r := by
 obtain ⟨K1, h1⟩ := h1
 obtain ⟨K2, h2⟩ := h2
 exact ⟨K1 + K2, fun k hk => by show (g k).bind (h k) = some r; rw [h1 k (by omega), Option.bind_some]; exact h2 k (by omega)⟩
theorem Big.of {α : Type} {a : Option α} {r : α} (h : a = some r) : Big (fun _ => a) r := ⟨0, fun _ _ => h⟩
theorem Big.some_ {α : Type} (r : α) : Big (fun _ => some r) r := ⟨0, fun _ _ => rfl⟩
theorem Big.succ {α : Type} {g : Nat → Option α} {r : α} (h : Big (fun k => g (k + 1)) r) : Big g r := by
 obtain ⟨K, h⟩ := h
 exact ⟨K + 1, fun k hk => by obtain ⟨m, rfl⟩ : ∃ m, k = m + 1 := ⟨k - 1, by omega⟩; exact h m (by omega)⟩
theorem Big.exists_ {α : Type} {g : Nat → Option α} {r : α} (h : Big g r) : ∃ k, g k = some r := by
 obtain ⟨K, h⟩ := h
 exact ⟨K, h K (Nat.le_refl _)⟩
theorem Big.uniq {α : Type} {g : Nat → Option α} {r s : α} (h : Big g r) (h' : Big g s) : r = s := by
 obtain ⟨K, h⟩ := h
 obtain ⟨K', h'⟩ := h'
 have := (h (K + K') (by omega)).symm.trans (h' (K + K') (by omega))
 exact Option.some.inj this
theorem Big.cast {α : Type} {g : Nat → Option α} {r s : α} (h : Big g r) (e : r = s) : Big g s := e ▸ h

theorem w64 {i : Int} (h0 : -9223372036854775808 ≤ i) (h1 : i ≤ 9223372036854775807) : IntKind.i64.wrap i = i := by
 rw [Go.IntWalk.i64_left]; unfold wrap64
 omega
theorem w64n {i : Nat} (h1 : i < 9223372036854775807) : IntKind.i64.wrap ((i : Int) + 1) = ((i + 1 : Nat) : Int) := by
 rw [Go.IntWalk.i64_left]; unfold wrap64
 omega
theorem rd_nat (l : List Int) (i : Nat) : rde l (i : Int) = l.getD i 0 := by
 unfold rde
 rw [Int.toNat_natCast]
 rfl
theorem rd_cons_drop {l t : List Int} {a : Int} {i : Nat} (h : l.drop i = a :: t) : rde l (i : Int) = a ∧ i < l.length ∧ l.drop (i + 1) = t := by
 have hi : i < l.length := by
  rcases Nat.lt_or_ge i l.length with h1 | h1
  ·exact h1
  ·rw [List.drop_eq_nil_of_le h1] at h
   cases h
 rw [List.drop_eq_getElem_cons hi] at h
 injection h with h1 h2
 exact ⟨by rw [rd_nat, List.getD_eq_getElem?_getD, List.getElem?_eq_getElem hi]; exact h1, hi, h2⟩
theorem drop_nil_le {l : List Int} {i : Nat} (h : l.drop i = []) : l.length ≤ i := by
 rw [List.drop_eq_nil_iff] at h
 exact h
theorem wf64 {x : Int} (h : (Lit.int .i64 x).wf = true) : -9223372036854775808 ≤ x ∧ x ≤ 9223372036854775807 := by
 have h1 : (decide ((-9223372036854775808 : Int) ≤ x) && decide (x ≤ (9223372036854775807 : Int))) = true := h
 simpa using h1
end Go.Proofs.YtecdijlfnnminaaGreatDoor.Q
set_option linter.all false
namespace Go.Proofs.YtecdijlfnnminaaGreatDoor.Q
open Go.RowKit Go Go.Proofs.YtecdijlfnnminaaGreatDoor.Eng Go.Proofs.YtecdijlfnnminaaGreatDoor Go.Proofs.YtecdijlfnnminaaGreatDoor.Y

theorem Big.pos {α : Type} {c : Prop} [Decidable c] {f g : Nat → Option α} {r : α} (h : c) (hb : Big f r) : Big (fun k => if c then f k else g k) r := by
 simpa only [if_pos h] using hb
theorem Big.neg {α : Type} {c : Prop} [Decidable c] {f g : Nat → Option α} {r : α} (h : ¬ c) (hb : Big g r) : Big (fun k => if c then f k else g k) r := by
 simpa only [if_neg h] using hb
end Go.Proofs.YtecdijlfnnminaaGreatDoor.Q
set_option linter.all false
namespace Go.Proofs.YtecdijlfnnminaaGreatDoor.Q
open Go.RowKit Go Go.Proofs.YtecdijlfnnminaaGreatDoor.Eng Go.Proofs.YtecdijlfnnminaaGreatDoor Go.Proofs.YtecdijlfnnminaaGreatDoor.Y

def inR (x a b : Int) : Bool := decide (a ≤ x) && decide (x ≤ b)
theorem inR_iff {x a b : Int} : inR x a b = true ↔ a ≤ x ∧ x ≤ b := by simp [inR]
theorem inR_not {x a b : Int} : inR x a b = false ↔ ¬ (a ≤ x ∧ x ≤ b) := by rw [← Bool.not_eq_true, inR_iff]
theorem v_l1In (x a b : Int) : spec_l1In.f x a b = some (inR x a b) := by
 unfold spec_l1In.f inR
 by_cases h : x ≥ a
 ·rw [if_pos h, decide_eq_true (show a ≤ x from h), Bool.true_and]
 ·rw [if_neg h, decide_eq_false (show ¬ a ≤ x from h), Bool.false_and]
theorem v_between (x a b : Int) : impl_between.f x a b = some (inR x a b) := by
 unfold impl_between.f inR
 by_cases h : x ≥ a
 ·rw [if_pos h, decide_eq_true (show a ≤ x from h), Bool.true_and]
 ·rw [if_neg h, decide_eq_false (show ¬ a ≤ x from h), Bool.false_and]
end Go.Proofs.YtecdijlfnnminaaGreatDoor.Q
set_option linter.all false
namespace Go.Proofs.YtecdijlfnnminaaGreatDoor.Q
open Go.RowKit Go Go.Proofs.YtecdijlfnnminaaGreatDoor.Eng Go.Proofs.YtecdijlfnnminaaGreatDoor Go.Proofs.YtecdijlfnnminaaGreatDoor.Y

/-- A clue of p people. -/
def clueB (p K A B : Int) : Bool := inR B 0 2000 && (if K = 0 ∨ K = 2 ∨ K = 4 then A == 0 else if K = 1 then inR A 0 (p - 1) else if K = 3 ∨ K = 5 then inR A 0 (p - 1) && decide (B < 2) else if K = 6 then inR A 0 9 && inR B 2 9 else false)
theorem sClue_j1 (p K A B : Int) (hp : 2 ≤ p ∧ p ≤ 3) (b : Bool) : Big (fun k => spec_pzClue.j1 k p K b K A B) (if b = true then inR A 0 (p - 1) && decide (B < 2) else if K = 6 then inR A 0 9 && inR B 2 9 else false) := by
 refine Big.succ ?_
 simp only [spec_pzClue.j1, v_l1In, Option.bind_some, w64 (i := p - 1) (by omega) (by omega)]
 refine Big.of ?_
 cases b
 ·by_cases h : K = 6
  ·simp only [if_pos h, Bool.false_eq_true, if_false]
   cases inR A 0 9 <;> simp
  ·simp [h]
 ·simp only [if_true]
  cases inR A 0 (p - 1) <;> simp
theorem sClue_j0 (p K A B : Int) (hp : 2 ≤ p ∧ p ≤ 3) (b : Bool) : Big (fun k => spec_pzClue.j0 k p K b K A B) (if b = true then A == 0 else if K = 1 then inR A 0 (p - 1) else if K = 3 ∨ K = 5 then inR A 0 (p - 1) && decide (B < 2) else if K = 6 then inR A 0 9 && inR B 2 9 else false) := by
 refine Big.succ ?_
 simp only [spec_pzClue.j0, v_l1In, Option.bind_some, w64 (i := p - 1) (by omega) (by omega)]
 cases b
 ·simp only [Bool.false_eq_true, if_false]
  by_cases h1 : K = 1
  ·simp only [if_pos h1]
   exact Big.some_ _
  ·simp only [if_neg h1]
   by_cases h3 : K = 3
   ·simp only [if_pos h3, if_pos (show K = 3 ∨ K = 5 from .inl h3)]
    have := sClue_j1 p K A B hp (K == 3)
    rwa [if_pos (by simpa using h3)] at this
   ·simp only [if_neg h3]
    have := sClue_j1 p K A B hp (K == 5)
    by_cases h5 : K = 5
    ·rw [if_pos (by simpa using h5)] at this
     rw [if_pos (show K = 3 ∨ K = 5 from .inr h5)]
     exact this
    ·rw [if_neg (by simpa using h5)] at this
     rw [if_neg (show ¬ (K = 3 ∨ K = 5) by omega)]
     exact this
 ·simp only [if_true]
  exact Big.some_ _
theorem pzClue_at (p K A B : Int) (hp : 2 ≤ p ∧ p ≤ 3) : Big (fun k => spec_pzClue.f k p (K, A, B)) (clueB p K A B) := by
 unfold spec_pzClue.f clueB
 simp only [v_l1In, Option.bind_some]
 cases inR B 0 2000
 ·simp only [Bool.false_eq_true, if_false, Bool.false_and]
  exact Big.some_ _
 ·simp only [if_true, Bool.true_and]
  by_cases h0 : K = 0
  ·simp only [if_pos h0]
   have := sClue_j0 p K A B hp (K == 0)
   rw [if_pos (by simpa using h0)] at this
   rw [if_pos (by omega)]
   exact this
  ·simp only [if_neg h0]
   by_cases h2 : K = 2
   ·simp only [if_pos h2]
    have := sClue_j0 p K A B hp (K == 2)
    rw [if_pos (by simpa using h2)] at this
    rw [if_pos (by omega)]
    exact this
   ·simp only [if_neg h2]
    have := sClue_j0 p K A B hp (K == 4)
    by_cases h4 : K = 4
    ·rw [if_pos (by simpa using h4)] at this
     rw [if_pos (by omega)]
     exact this
    ·rw [if_neg (by simpa using h4)] at this
     rw [if_neg (by omega)]
     exact this
theorem iClue_j1 (p K A B : Int) (hp : 2 ≤ p ∧ p ≤ 3) (b : Bool) : Big (fun k => impl_IsClue.j1 k p K b K A B) (if b = true then inR A 0 (p - 1) && decide (B ≤ 1) else if K = 6 then inR A 0 9 && inR B 2 9 else A == 0) := by
 refine Big.succ ?_
 simp only [impl_IsClue.j1, v_between, Option.bind_some, w64 (i := p - 1) (by omega) (by omega)]
 refine Big.of ?_
 cases b
 ·by_cases h : K = 6
  ·simp only [if_pos h, Bool.false_eq_true, if_false]
   cases inR A 0 9 <;> simp
  ·simp [h]
 ·simp only [if_true]
  cases inR A 0 (p - 1) <;> simp
theorem iClue_j0 (p K A B : Int) (hp : 2 ≤ p ∧ p ≤ 3) : Big (fun k => impl_IsClue.j0 k p false K A B) (if K = 1 then inR A 0 (p - 1) else if K = 3 ∨ K = 5 then inR A 0 (p - 1) && decide (B ≤ 1) else if K = 6 then inR A 0 9 && inR B 2 9 else A == 0) := by
 refine Big.succ ?_
 simp only [impl_IsClue.j0, v_between, Option.bind_some, w64 (i := p - 1) (by omega) (by omega), Bool.false_eq_true, if_false]
 by_cases h1 : K = 1
 ·simp only [if_pos h1]
  exact Big.some_ _
 ·simp only [if_neg h1]
  by_cases h3 : K = 3
  ·simp only [if_pos h3, if_pos (show K = 3 ∨ K = 5 from .inl h3)]
   have := iClue_j1 p K A B hp (K == 3)
   rwa [if_pos (by simpa using h3)] at this
  ·simp only [if_neg h3]
   have := iClue_j1 p K A B hp (K == 5)
   by_cases h5 : K = 5
   ·rw [if_pos (by simpa using h5)] at this
    rw [if_pos (show K = 3 ∨ K = 5 from .inr h5)]
    exact this
   ·rw [if_neg (by simpa using h5)] at this
    rw [if_neg (show ¬ (K = 3 ∨ K = 5) by omega)]
    exact this
theorem IsClue_at (p K A B : Int) : Big (fun k => impl_IsClue.f k p (K, A, B)) (inR p 2 3 && clueB p K A B) := by
 unfold impl_IsClue.f
 simp only [v_between, Option.bind_some]
 have no : Big (fun k => impl_IsClue.j0 k p true K A B) false := Big.succ (by simp only [impl_IsClue.j0, if_true]; exact Big.some_ _)
 cases hp : inR p 2 3
 ·simp only [Bool.false_eq_true, if_false, Bool.false_and]
  exact no
 ·have hp' := inR_iff.mp hp
  simp only [if_true, Bool.true_and]
  cases hK : inR K 0 6
  ·simp only [Bool.false_eq_true, if_false]
   rw [inR_not] at hK
   refine Big.cast no ?_
   unfold clueB
   rw [if_neg (by omega), if_neg (by omega), if_neg (by omega), if_neg (by omega), Bool.and_false]
  ·simp only [if_true]
   have hK' := inR_iff.mp hK
   cases hB : inR B 0 2000
   ·simp only [Bool.not_false]
    refine Big.cast no ?_
    unfold clueB
    rw [hB, Bool.false_and]
   ·simp only [Bool.not_true]
    refine Big.cast (iClue_j0 p K A B hp') ?_
    unfold clueB
    rw [hB, Bool.true_and]
    by_cases h1 : K = 1
    ·rw [if_pos h1, if_neg (by omega), if_pos h1]
    ·rw [if_neg h1]
     by_cases h3 : K = 3 ∨ K = 5
     ·rw [if_pos h3, if_neg (by omega), if_neg h1, if_pos h3]
      congr 1
      rw [decide_eq_decide]
      omega
     ·rw [if_neg h3]
      by_cases h6 : K = 6
      ·rw [if_pos h6, if_neg (by omega), if_neg h1, if_neg h3, if_pos h6]
      ·rw [if_neg h6, if_pos (by omega)]
theorem v_pzPeople (p : Int) : spec_pzPeople.f p = some (inR p 2 3) := by simp [spec_pzPeople.f, v_l1In]
end Go.Proofs.YtecdijlfnnminaaGreatDoor.Q
set_option linter.all false
namespace Go.Proofs.YtecdijlfnnminaaGreatDoor.Q
open Go.RowKit Go Go.Proofs.YtecdijlfnnminaaGreatDoor.Eng Go.Proofs.YtecdijlfnnminaaGreatDoor Go.Proofs.YtecdijlfnnminaaGreatDoor.Y

/-- Sums, products and counts, each step as the machine takes it. -/
def sumW : Int → List Int → Int
 | acc, [] => acc
 | acc, b :: t => sumW (IntKind.i64.wrap (acc + b)) t
def prodW : Int → List Int → Int
 | acc, [] => acc
 | acc, b :: t => prodW (IntKind.i64.wrap (acc * b)) t
def isP (x : Int) : Bool := x == 2 || x == 3 || x == 5 || x == 7 || x == 11
def cntW : Int → List Int → Int
 | acc, [] => acc
 | acc, b :: t => cntW (if isP b = true then IntKind.i64.wrap (acc + 1) else acc) t
theorem total_l (l : List Int) (hl : l.length ≤ 1048576) (t : List Int) : ∀ (i : Nat) (acc : Int), l.drop i = t → i ≤ l.length → Big (fun k => impl_total.l0 k acc l (l.length : Int) i) (sumW acc t) := by
 induction t with
 | nil =>
  intro i acc hd hi
  have hle := drop_nil_le hd
  refine Big.succ ?_
  simp only [impl_total.l0, if_neg (show ¬ (i : Int) < (l.length : Int) by omega), sumW]
  exact Big.some_ _
 | cons b t ih =>
  intro i acc hd hi
  obtain ⟨h1, h2, h3⟩ := rd_cons_drop hd
  refine Big.succ ?_
  simp only [impl_total.l0, h1, if_pos (show (i : Int) < (l.length : Int) by omega), if_pos (show 0 ≤ (i : Int) by omega)]
  rw [w64n (by omega)]
  exact ih (i + 1) _ h3 (by omega)
theorem total_at (l : List Int) (hl : l.length ≤ 1048576) : Big (fun k => impl_total.f k l) (sumW 0 l) := by
 unfold impl_total.f
 exact total_l l hl l 0 0 rfl (Nat.zero_le _)
theorem agSum_l (l : List Int) (hl : l.length ≤ 1048576) (t : List Int) : ∀ (i : Nat) (acc : Int), l.drop i = t → i ≤ l.length → Big (fun k => spec_agSum.l0 k acc l (l.length : Int) i) (sumW acc t) := by
 induction t with
 | nil =>
  intro i acc hd hi
  have hle := drop_nil_le hd
  refine Big.succ ?_
  simp only [spec_agSum.l0, if_neg (show ¬ (i : Int) < (l.length : Int) by omega), sumW]
  exact Big.some_ _
 | cons b t ih =>
  intro i acc hd hi
  obtain ⟨h1, h2, h3⟩ := rd_cons_drop hd
  refine Big.succ ?_
  simp only [spec_agSum.l0, h1, if_pos (show (i : Int) < (l.length : Int) by omega), if_pos (show 0 ≤ (i : Int) by omega)]
  rw [w64n (by omega)]
  exact ih (i + 1) _ h3 (by omega)
theorem agSum_at (l : List Int) (hl : l.length ≤ 1048576) : Big (fun k => spec_agSum.f k l) (sumW 0 l) := by
 unfold spec_agSum.f
 exact agSum_l l hl l 0 0 rfl (Nat.zero_le _)
theorem product_l (l : List Int) (hl : l.length ≤ 1048576) (t : List Int) : ∀ (i : Nat) (acc : Int), l.drop i = t → i ≤ l.length → Big (fun k => impl_product.l0 k acc l (l.length : Int) i) (prodW acc t) := by
 induction t with
 | nil =>
  intro i acc hd hi
  have hle := drop_nil_le hd
  refine Big.succ ?_
  simp only [impl_product.l0, if_neg (show ¬ (i : Int) < (l.length : Int) by omega), prodW]
  exact Big.some_ _
 | cons b t ih =>
  intro i acc hd hi
  obtain ⟨h1, h2, h3⟩ := rd_cons_drop hd
  refine Big.succ ?_
  simp only [impl_product.l0, h1, if_pos (show (i : Int) < (l.length : Int) by omega), if_pos (show 0 ≤ (i : Int) by omega)]
  rw [w64n (by omega)]
  exact ih (i + 1) _ h3 (by omega)
theorem productOf_at (l : List Int) (hl : l.length ≤ 1048576) : Big (fun k => impl_productOf.f k l) (prodW 1 l) := by
 unfold impl_productOf.f impl_product.f
 exact Big.bind (product_l l hl l 0 1 rfl (Nat.zero_le _)) (Big.some_ _)
theorem sProd_l (l : List Int) (hl : l.length ≤ 1048576) (t : List Int) : ∀ (i : Nat) (acc : Int), l.drop i = t → i ≤ l.length → Big (fun k => spec_pzValue.l0 k acc l (l.length : Int) i) (prodW acc t) := by
 induction t with
 | nil =>
  intro i acc hd hi
  have hle := drop_nil_le hd
  refine Big.succ ?_
  simp only [spec_pzValue.l0, if_neg (show ¬ (i : Int) < (l.length : Int) by omega), prodW]
  exact Big.some_ _
 | cons b t ih =>
  intro i acc hd hi
  obtain ⟨h1, h2, h3⟩ := rd_cons_drop hd
  refine Big.succ ?_
  simp only [spec_pzValue.l0, h1, if_pos (show (i : Int) < (l.length : Int) by omega), if_pos (show 0 ≤ (i : Int) by omega)]
  rw [w64n (by omega)]
  exact ih (i + 1) _ h3 (by omega)
theorem inYears_l (l : List Int) (a : Int) (hl : l.length ≤ 1048576) (t : List Int) : ∀ (i : Nat) (acc : List Int), l.drop i = t → i ≤ l.length → acc.length ≤ i → Big (fun k => impl_inYears.l0 k a acc l (l.length : Int) i) (acc ++ t.map fun x => IntKind.i64.wrap (x + a)) := by
 induction t with
 | nil =>
  intro i acc hd hi ha
  have hle := drop_nil_le hd
  refine Big.succ ?_
  simp only [impl_inYears.l0, if_neg (show ¬ (i : Int) < (l.length : Int) by omega), List.map_nil, List.append_nil]
  exact Big.some_ _
 | cons b t ih =>
  intro i acc hd hi ha
  obtain ⟨h1, h2, h3⟩ := rd_cons_drop hd
  refine Big.succ ?_
  simp only [impl_inYears.l0, h1, if_pos (show (i : Int) < (l.length : Int) by omega), if_pos (show 0 ≤ (i : Int) by omega), if_pos (show acc.length < 17592186044416 by omega)]
  rw [w64n (by omega)]
  have := ih (i + 1) (acc ++ [IntKind.i64.wrap (b + a)]) h3 (by omega) (by simp; omega)
  rw [List.append_assoc] at this
  exact this
theorem inYears_at (l : List Int) (a : Int) (hl : l.length ≤ 1048576) : Big (fun k => impl_inYears.f k l a) (l.map fun x => IntKind.i64.wrap (x + a)) := by
 unfold impl_inYears.f
 exact inYears_l l a hl l 0 [] rfl (Nat.zero_le _) (Nat.le_refl _)
theorem isPrime_at (x : Int) (h : 1 ≤ x ∧ x ≤ 12) : Big (fun k => impl_isPrime.f k x) (isP x) := by
 obtain ⟨h1, h2⟩ := h
 rcases (show x = 1 ∨ x = 2 ∨ x = 3 ∨ x = 4 ∨ x = 5 ∨ x = 6 ∨ x = 7 ∨ x = 8 ∨ x = 9 ∨ x = 10 ∨ x = 11 ∨ x = 12 by omega) with rfl | rfl | rfl | rfl | rfl | rfl | rfl | rfl | rfl | rfl | rfl | rfl
 all_goals
  exact ⟨8, fun k hk => by obtain ⟨m, rfl⟩ : ∃ m, k = m + 8 := ⟨k - 8, by omega⟩; unfold impl_isPrime.f; kernel_rfl⟩
theorem kiPrime_at (x : Int) (h : 1 ≤ x ∧ x ≤ 12) : Big (fun k => spec_kiPrime.f k x) (isP x) := by
 obtain ⟨h1, h2⟩ := h
 rcases (show x = 1 ∨ x = 2 ∨ x = 3 ∨ x = 4 ∨ x = 5 ∨ x = 6 ∨ x = 7 ∨ x = 8 ∨ x = 9 ∨ x = 10 ∨ x = 11 ∨ x = 12 by omega) with rfl | rfl | rfl | rfl | rfl | rfl | rfl | rfl | rfl | rfl | rfl | rfl
 all_goals
  exact ⟨20, fun k hk => by obtain ⟨m, rfl⟩ : ∃ m, k = m + 20 := ⟨k - 20, by omega⟩; unfold spec_kiPrime.f; kernel_rfl⟩
theorem countOf_l (l : List Int) (hl : l.length ≤ 1048576) (hb : ∀ x ∈ l, 1 ≤ x ∧ x ≤ 12) (t : List Int) : ∀ (i : Nat) (acc : Int), l.drop i = t → i ≤ l.length → Big (fun k => impl_countOf.l0 k ([112] : List UInt8) acc l (l.length : Int) i) (cntW acc t) := by
 induction t with
 | nil =>
  intro i acc hd hi
  have hle := drop_nil_le hd
  refine Big.succ ?_
  simp only [impl_countOf.l0, if_neg (show ¬ (i : Int) < (l.length : Int) by omega), cntW]
  exact Big.some_ _
 | cons b t ih =>
  intro i acc hd hi
  obtain ⟨h1, h2, h3⟩ := rd_cons_drop hd
  have hbm := hb b (List.mem_of_mem_drop (i := i) (by rw [hd]; exact List.mem_cons_self))
  refine Big.succ ?_
  simp only [impl_countOf.l0, h1, if_pos (show (i : Int) < (l.length : Int) by omega), if_pos (show 0 ≤ (i : Int) by omega)]
  rw [w64n (by omega)]
  have hk : Big (fun k => impl_ofKind.f k b ([112] : List UInt8)) (isP b) := by
   unfold impl_ofKind.f
   simp only [if_pos (show ([112] : List UInt8) = [112] from rfl)]
   exact Big.bind (isPrime_at b hbm) (Big.some_ _)
  refine Big.bind hk ?_
  unfold cntW
  cases isP b
  ·simp only [Bool.false_eq_true, if_false]
   exact ih (i + 1) _ h3 (by omega)
  ·simp only [if_true]
   exact ih (i + 1) _ h3 (by omega)
theorem countOf_at (l : List Int) (hl : l.length ≤ 1048576) (hb : ∀ x ∈ l, 1 ≤ x ∧ x ≤ 12) : Big (fun k => impl_countOf.f k l ([112] : List UInt8)) (cntW 0 l) := by
 unfold impl_countOf.f
 exact countOf_l l hl hb l 0 0 rfl (Nat.zero_le _)
theorem kiCount_l (l : List Int) (hl : l.length ≤ 1048576) (hb : ∀ x ∈ l, 1 ≤ x ∧ x ≤ 12) (t : List Int) : ∀ (i : Nat) (acc : Int), l.drop i = t → i ≤ l.length → Big (fun k => spec_kiCount.l0 k 0 ([112] : List UInt8) acc l (l.length : Int) i) (cntW acc t) := by
 induction t with
 | nil =>
  intro i acc hd hi
  have hle := drop_nil_le hd
  refine Big.succ ?_
  simp only [spec_kiCount.l0, if_neg (show ¬ (i : Int) < (l.length : Int) by omega), cntW]
  exact Big.some_ _
 | cons b t ih =>
  intro i acc hd hi
  obtain ⟨h1, h2, h3⟩ := rd_cons_drop hd
  have hbm := hb b (List.mem_of_mem_drop (i := i) (by rw [hd]; exact List.mem_cons_self))
  refine Big.succ ?_
  simp only [spec_kiCount.l0, h1, if_pos (show (i : Int) < (l.length : Int) by omega), if_pos (show 0 ≤ (i : Int) by omega)]
  rw [w64n (by omega), w64 (i := b + 0) (by omega) (by omega), Int.add_zero]
  have hk : Big (fun k => spec_kiIs.f k b ([112] : List UInt8)) (isP b) := by
   unfold spec_kiIs.f
   simp only [if_pos (show ([112] : List UInt8) = [112] from rfl)]
   exact Big.bind (kiPrime_at b hbm) (Big.some_ _)
  refine Big.bind hk ?_
  unfold cntW
  cases isP b
  ·simp only [Bool.false_eq_true, if_false]
   exact ih (i + 1) _ h3 (by omega)
  ·simp only [if_true]
   exact ih (i + 1) _ h3 (by omega)
theorem kiCount_at (l : List Int) (hl : l.length ≤ 1048576) (hb : ∀ x ∈ l, 1 ≤ x ∧ x ≤ 12) : Big (fun k => spec_kiCount.f k l 0 ([112] : List UInt8)) (cntW 0 l) := by
 unfold spec_kiCount.f
 exact kiCount_l l hl hb l 0 0 rfl (Nat.zero_le _)

/-- Hidden ages. -/
def hid (l : List Int) : Bool := inR (l.length : Int) 2 3 && l.all fun x => inR x 1 12
theorem hid_iff {l : List Int} : hid l = true ↔ (2 ≤ l.length ∧ l.length ≤ 3) ∧ ∀ x ∈ l, 1 ≤ x ∧ x ≤ 12 := by
 unfold hid
 rw [Bool.and_eq_true, inR_iff, List.all_eq_true]
 constructor
 ·rintro ⟨h1, h2⟩
  exact ⟨by omega, fun x hx => inR_iff.mp (h2 x hx)⟩
 ·rintro ⟨h1, h2⟩
  exact ⟨by omega, fun x hx => inR_iff.mpr (h2 x hx)⟩
/-- What a clue of a kind below 6 tells. -/
def nxI (A : Int) (l : List Int) : Int := Int.tmod (A + 1) (l.length : Int)
def valN (K A : Int) (l : List Int) : Int := if K = 0 then sumW 0 l else if K = 1 then rde l A else if K = 2 then prodW 1 l else if K = 3 then (if rde l A > rde l (nxI A l) then 1 else 0) else if K = 4 then cntW 0 l else (if Int.tmod (rde l A) (rde l (nxI A l)) = 0 then 1 else 0)
def fitN (K A B : Int) (l : List Int) : Bool := if K = 6 then Int.tmod (IntKind.i64.wrap (sumW 0 l + IntKind.i64.wrap (A * (l.length : Int)))) B == 0 else valN K A l == B
theorem rd_mem2 {l : List Int} {i : Int} (h0 : 0 ≤ i) (h1 : i < (l.length : Int)) : rde l i ∈ l := by
 have h : i.toNat < l.length := by omega
 unfold rde
 rw [List.getD_eq_getElem?_getD, List.getElem?_eq_getElem h]
 exact List.getElem_mem h
theorem nx_in (A : Int) (l : List Int) (hl : 0 < l.length) (hA : 0 ≤ A) : 0 ≤ nxI A l ∧ nxI A l < (l.length : Int) := by
 unfold nxI
 rw [Int.tmod_eq_emod_of_nonneg (by omega)]
 exact ⟨Int.emod_nonneg _ (by omega), Int.emod_lt_of_pos _ (by omega)⟩
theorem sum_shift (A : Int) (hA : 0 ≤ A ∧ A ≤ 9) (l : List Int) (h2 : 2 ≤ l.length ∧ l.length ≤ 3) (hb : ∀ x ∈ l, 1 ≤ x ∧ x ≤ 12) : sumW 0 (l.map fun x => IntKind.i64.wrap (x + A)) = IntKind.i64.wrap (sumW 0 l + IntKind.i64.wrap (A * (l.length : Int))) := by
 match l, h2 with
 | [x, y], _ =>
  have hx := hb x (by simp)
  have hy := hb y (by simp)
  simp only [List.map_cons, List.map_nil, sumW, List.length_cons, List.length_nil]
  rw [w64 (i := x + A) (by omega) (by omega), w64 (i := y + A) (by omega) (by omega), w64 (i := 0 + (x + A)) (by omega) (by omega), w64 (i := 0 + (x + A) + (y + A)) (by omega) (by omega), w64 (i := 0 + x) (by omega) (by omega), w64 (i := 0 + x + y) (by omega) (by omega), w64 (i := A * _) (by omega) (by omega), w64 (by omega) (by omega)]
  omega
 | [x, y, z], _ =>
  have hx := hb x (by simp)
  have hy := hb y (by simp)
  have hz := hb z (by simp)
  simp only [List.map_cons, List.map_nil, sumW, List.length_cons, List.length_nil]
  rw [w64 (i := x + A) (by omega) (by omega), w64 (i := y + A) (by omega) (by omega), w64 (i := z + A) (by omega) (by omega), w64 (i := 0 + (x + A)) (by omega) (by omega), w64 (i := 0 + (x + A) + (y + A)) (by omega) (by omega), w64 (i := 0 + (x + A) + (y + A) + (z + A)) (by omega) (by omega), w64 (i := 0 + x) (by omega) (by omega), w64 (i := 0 + x + y) (by omega) (by omega), w64 (i := 0 + x + y + z) (by omega) (by omega), w64 (i := A * _) (by omega) (by omega), w64 (by omega) (by omega)]
  omega
theorem v_bit (b : Bool) : impl_bit.f b = some (if b = true then 1 else 0) := by
 unfold impl_bit.f
 cases b <;> rfl
/-- What the clue's kind asks of its number A. -/
def okA (p K A : Int) : Prop := 0 ≤ A ∧ (K = 1 ∨ K = 3 ∨ K = 5 → A < p) ∧ (K = 6 → A ≤ 9)
theorem pzValue_at (K A : Int) (l : List Int) (h : hid l = true) (hK : 0 ≤ K ∧ K ≤ 5) (hA : okA (l.length : Int) K A) : Big (fun k => spec_pzValue.f k K A l) (valN K A l) := by
 obtain ⟨hl, hb⟩ := hid_iff.mp h
 unfold spec_pzValue.f valN
 have hn := nx_in A l (by omega) hA.1
 by_cases h0 : K = 0
 ·simp only [if_pos h0]
  exact Big.bind (agSum_at l (by omega)) (Big.some_ _)
 ·simp only [if_neg h0]
  by_cases h1 : K = 1
  ·have hA1 := hA.2.1 (.inl h1)
   simp only [if_pos h1, if_pos hA.1, if_pos hA1]
   exact Big.some_ _
  ·simp only [if_neg h1]
   by_cases h2 : K = 2
   ·simp only [if_pos h2]
    exact sProd_l l (by omega) l 0 1 rfl (Nat.zero_le _)
   ·simp only [if_neg h2]
    by_cases h3 : K = 3
    ·have hA1 := hA.2.1 (.inr (.inl h3))
     have hA0 := hA.1
     have hw : IntKind.i64.wrap (A + 1) = A + 1 := w64 (by omega) (by omega)
     have hnx : Int.tmod (A + 1) (l.length : Int) = nxI A l := rfl
     simp only [if_pos h3, if_pos hA.1, if_pos hA1, if_neg (show ¬ (l.length : Int) = 0 by omega), hw, hnx, if_pos hn.1, if_pos hn.2]
     exact Big.of (by split <;> rfl)
    ·simp only [if_neg h3]
     by_cases h4 : K = 4
     ·simp only [if_pos h4]
      exact Big.bind (kiCount_at l (by omega) hb) (Big.some_ _)
     ·have hA1 := hA.2.1 (.inr (.inr (by omega)))
      have hA0 := hA.1
      have hw : IntKind.i64.wrap (A + 1) = A + 1 := w64 (by omega) (by omega)
      have hnx : Int.tmod (A + 1) (l.length : Int) = nxI A l := rfl
      have hr := hb _ (rd_mem2 hn.1 hn.2)
      simp only [if_neg h4, if_pos hA.1, if_pos hA1, if_neg (show ¬ (l.length : Int) = 0 by omega), hw, hnx, if_pos hn.1, if_pos hn.2, if_neg (show ¬ rde l (nxI A l) = 0 by omega)]
      exact Big.of (by split <;> rfl)
theorem tells_at (K A : Int) (l : List Int) (h : hid l = true) (hK : 0 ≤ K ∧ K ≤ 6) (hA : okA (l.length : Int) K A) (hA9 : A ≤ 9) : Big (fun k => impl_tells.f k K A l) (if K = 6 then IntKind.i64.wrap (sumW 0 l + IntKind.i64.wrap (A * (l.length : Int))) else valN K A l) := by
 obtain ⟨hl, hb⟩ := hid_iff.mp h
 unfold impl_tells.f valN
 have hn := nx_in A l (by omega) hA.1
 have hw : IntKind.i64.wrap (A + 1) = A + 1 := w64 (by have := hA.1; omega) (by omega)
 have hnx : Int.tmod (A + 1) (l.length : Int) = nxI A l := rfl
 simp only [if_neg (show ¬ (l.length : Int) = 0 by omega), hw, hnx, if_pos hn.1, if_pos hn.2]
 by_cases h0 : K = 0
 ·simp only [if_pos h0, if_neg (show ¬ K = 6 by omega)]
  exact Big.bind (total_at l (by omega)) (Big.some_ _)
 ·simp only [if_neg h0]
  by_cases h1 : K = 1
  ·have hA1 := hA.2.1 (.inl h1)
   simp only [if_pos h1, if_pos hA.1, if_pos hA1, if_neg (show ¬ K = 6 by omega)]
   exact Big.some_ _
  ·simp only [if_neg h1]
   by_cases h2 : K = 2
   ·simp only [if_pos h2, if_neg (show ¬ K = 6 by omega)]
    exact Big.bind (productOf_at l (by omega)) (Big.some_ _)
   ·simp only [if_neg h2]
    by_cases h3 : K = 3
    ·have hA1 := hA.2.1 (.inr (.inl h3))
     simp only [if_pos h3, if_pos hA.1, if_pos hA1, v_bit, Option.bind_some, decide_eq_true_eq, if_neg (show ¬ K = 6 by omega)]
     exact Big.some_ _
    ·simp only [if_neg h3]
     by_cases h4 : K = 4
     ·simp only [if_pos h4, if_neg (show ¬ K = 6 by omega)]
      exact Big.bind (countOf_at l (by omega) hb) (Big.some_ _)
     ·simp only [if_neg h4]
      by_cases h5 : K = 5
      ·have hA1 := hA.2.1 (.inr (.inr h5))
       have hr := hb _ (rd_mem2 hn.1 hn.2)
       simp only [if_pos h5, if_pos hA.1, if_pos hA1, if_neg (show ¬ rde l (nxI A l) = 0 by omega), v_bit, Option.bind_some, beq_iff_eq, if_neg (show ¬ K = 6 by omega)]
       exact Big.some_ _
      ·simp only [if_neg h5, if_pos (show K = 6 by omega)]
       rw [← sum_shift A ⟨hA.1, hA9⟩ l hl hb]
       exact Big.bind (inYears_at l A (by omega)) (Big.bind (total_at _ (by rw [List.length_map]; omega)) (Big.some_ _))
end Go.Proofs.YtecdijlfnnminaaGreatDoor.Q
set_option linter.all false
namespace Go.Proofs.YtecdijlfnnminaaGreatDoor.Q
open Go.RowKit Go Go.Proofs.YtecdijlfnnminaaGreatDoor.Eng Go.Proofs.YtecdijlfnnminaaGreatDoor Go.Proofs.YtecdijlfnnminaaGreatDoor.Y

/-- A clue's own numbers. -/
theorem okA_of_clue {p K A B : Int} (h : clueB p K A B = true) (hp : p ≤ 3) : okA p K A ∧ 0 ≤ K ∧ K ≤ 6 ∧ A ≤ 9 ∧ (K = 6 → 2 ≤ B) := by
 unfold clueB at h
 rw [Bool.and_eq_true] at h
 obtain ⟨hB, h⟩ := h
 unfold okA
 by_cases h0 : K = 0 ∨ K = 2 ∨ K = 4
 ·rw [if_pos h0] at h
  have : A = 0 := by simpa using h
  omega
 ·rw [if_neg h0] at h
  by_cases h1 : K = 1
  ·rw [if_pos h1, inR_iff] at h
   omega
  ·rw [if_neg h1] at h
   by_cases h3 : K = 3 ∨ K = 5
   ·rw [if_pos h3, Bool.and_eq_true, inR_iff] at h
    omega
   ·rw [if_neg h3] at h
    by_cases h6 : K = 6
    ·rw [if_pos h6, Bool.and_eq_true, inR_iff, inR_iff] at h
     omega
    ·rw [if_neg h6] at h
     cases h
theorem pzFits_at (K A B : Int) (l : List Int) (h : hid l = true) (hc : clueB (l.length : Int) K A B = true) : Big (fun k => spec_pzFits.f k (K, A, B) l) (fitN K A B l) := by
 obtain ⟨hl, hb⟩ := hid_iff.mp h
 obtain ⟨hA, hK0, hK6, hA9, hB⟩ := okA_of_clue hc (by omega)
 unfold spec_pzFits.f fitN
 by_cases h6 : K = 6
 ·have := hB h6
  simp only [if_pos h6, if_neg (show ¬ B = 0 by omega)]
  exact Big.bind (agSum_at l (by omega)) (Big.some_ _)
 ·simp only [if_neg h6]
  exact Big.bind (pzValue_at K A l h ⟨hK0, by omega⟩ hA) (Big.some_ _)
theorem fits_at (K A B : Int) (l : List Int) (h : hid l = true) (hc : clueB (l.length : Int) K A B = true) : Big (fun k => impl_Clue_fits.f k (K, A, B) l) (fitN K A B l) := by
 obtain ⟨hl, hb⟩ := hid_iff.mp h
 obtain ⟨hA, hK0, hK6, hA9, hB⟩ := okA_of_clue hc (by omega)
 unfold impl_Clue_fits.f fitN
 refine Big.bind (tells_at K A l h ⟨hK0, hK6⟩ hA hA9) ?_
 by_cases h6 : K = 6
 ·have := hB h6
  simp only [if_pos h6, if_neg (show ¬ B = 0 by omega)]
  exact Big.some_ _
 ·simp only [if_neg h6]
  exact Big.some_ _
end Go.Proofs.YtecdijlfnnminaaGreatDoor.Q
set_option linter.all false
namespace Go.Proofs.YtecdijlfnnminaaGreatDoor.Q
open Go.RowKit Go Go.Proofs.YtecdijlfnnminaaGreatDoor.Eng Go.Proofs.YtecdijlfnnminaaGreatDoor Go.Proofs.YtecdijlfnnminaaGreatDoor.Y

theorem l1All2_l (l : List Int) (a b : Int) (hl : l.length ≤ 1048576) (d : Nat) : ∀ i : Nat, i + d = l.length → Big (fun k => spec_l1All.l0 k a b l (l.length : Int) i) ((l.drop i).all fun x => inR x a b) := by
 induction d with
 | zero =>
  intro i hi
  refine Big.succ ?_
  simp only [spec_l1All.l0, if_neg (show ¬ (i : Int) < (l.length : Int) by omega)]
  rw [List.drop_of_length_le (by omega)]
  exact Big.some_ _
 | succ d ih =>
  intro i hi
  refine Big.succ ?_
  simp only [spec_l1All.l0]
  have hlt : i < l.length := by omega
  simp only [if_pos (show (i : Int) < (l.length : Int) by omega), if_pos (show 0 ≤ (i : Int) by omega), v_l1In, Option.bind_some]
  rw [List.drop_eq_getElem_cons hlt, List.all_cons, rd_nat, List.getD_eq_getElem?_getD, List.getElem?_eq_getElem hlt, Option.getD_some]
  cases h : inR l[i] a b with
  | true =>
   simp only [if_true, Bool.true_and]
   rw [w64n (by omega)]
   exact ih (i + 1) (by omega)
  | false =>
   simp only [Bool.false_eq_true, if_false, Bool.false_and]
   exact Big.some_ _
theorem pzHidden_at (l : List Int) (hl : l.length ≤ 1048576) : Big (fun k => spec_pzHidden.f k l) (hid l) := by
 unfold spec_pzHidden.f hid
 simp only [show spec_pzPeople.f (l.length : Int) = some (inR (l.length : Int) 2 3) by simp [spec_pzPeople.f, v_l1In], Option.bind_some]
 cases inR (l.length : Int) 2 3 with
 | true =>
  simp only [if_true, Bool.true_and]
  unfold spec_l1All.f
  exact Big.bind (l1All2_l l 1 12 hl l.length 0 (by omega)) (Big.some_ _)
 | false =>
  simp only [Bool.false_eq_true, if_false, Bool.false_and]
  exact Big.some_ _
theorem v_areHidden (l : List Int) (hl : l.length ≤ 1048576) : impl_areHidden.f l = some (hid l) := by
 unfold impl_areHidden.f hid
 simp only [v_between, Option.bind_some]
 cases inR (l.length : Int) 2 3 with
 | true =>
  simp only [if_true, Bool.true_and, impl_areBetween.f, if_pos (show l.length < 4611686018427387904 by omega), Option.bind_some]
  rfl
 | false => simp only [Bool.false_eq_true, if_false, Bool.false_and]
end Go.Proofs.YtecdijlfnnminaaGreatDoor.Q
