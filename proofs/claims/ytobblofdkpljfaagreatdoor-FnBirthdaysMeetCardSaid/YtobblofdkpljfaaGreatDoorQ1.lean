/- Plain lemmas on functions that take a number of rounds: what such a function answers at all large numbers of rounds. No condition. -/
import Derived.Test.YtobblofdkpljfaaGreatDoorR0
import Derived.Lib.ItoaLen
import Derived.Lib.SplitLaws
import Derived.Lib.CutLaws
import Derived.Lib.AtoiAllCases
import Derived.Lib.ItoaWalk
namespace Go.Proofs.YtobblofdkpljfaaGreatDoor.Q
open Go.RowKit Go Go.Proofs.YtobblofdkpljfaaGreatDoor.Eng Go.Proofs.YtobblofdkpljfaaGreatDoor Go.Proofs.YtobblofdkpljfaaGreatDoor.Y

/-- From some number of rounds on, the answer is r. -/
def Big {α : Type} (g : Nat → Option α) (r : α) : Prop := ∃ K, ∀ k, K ≤ k → g k = some r
theorem Big.bind {α β : Type} {g : Nat → Option α} {a : α} {h : Nat → α → Option β} {r : β} (h1 : Big g a) (h2 : Big (fun k => h k a) r) : Big (fun k => (g k).bind (h k)) r := by
  obtain ⟨K1, h1⟩ := h1
  obtain ⟨K2, h2⟩ := h2
  exact ⟨K1 + K2, fun k hk => by show (g k).bind (h k) = some r; rw [h1 k (by omega), Option.bind_some]; exact h2 k (by omega)⟩
theorem Big.of {α : Type} {a : Option α} {r : α} (h : a = some r) : Big (fun _ => a) r := ⟨0, fun _ _ => h⟩
theorem Big.some_ {α : Type} (r : α) : Big (fun _ => some r) r := ⟨0, fun _ _ => rfl⟩
theorem Big.succ {α : Type} {g : Nat → Option α} {r : α} (h : Big (fun k => g (k + 1)) r) : Big g r := by
  obtain ⟨K, h⟩ := h
  exact ⟨K + 1, fun k hk => by obtain ⟨m, rfl⟩ : ∃ m, k = m + 1 := ⟨k - 1, by omega⟩; exact h m (by omega)⟩
theorem Big.exists_ {α : Type} {g : Nat → Option α} {r : α} (h : Big g r) : ∃ k, g k = some r := by
  obtain ⟨K, h⟩ := h
  exact ⟨K, h K (Nat.le_refl _)⟩
theorem Big.uniq {α : Type} {g : Nat → Option α} {r s : α} (h : Big g r) (h' : Big g s) : r = s := by
  obtain ⟨K, h⟩ := h
  obtain ⟨K', h'⟩ := h'
  have := (h (K + K') (by omega)).symm.trans (h' (K + K') (by omega))
  exact Option.some.inj this
theorem Big.cast {α : Type} {g : Nat → Option α} {r s : α} (h : Big g r) (e : r = s) : Big g s := e ▸ h

theorem w64 {i : Int} (h0 : -9223372036854775808 ≤ i) (h1 : i ≤ 9223372036854775807) : IntKind.i64.wrap i = i := by
  rw [Go.IntWalk.i64_left]; unfold wrap64
  omega
theorem w64n {i : Nat} (h1 : i < 9223372036854775807) : IntKind.i64.wrap ((i : Int) + 1) = ((i + 1 : Nat) : Int) := by
  rw [Go.IntWalk.i64_left]; unfold wrap64
  omega
theorem rd_nat (l : List Int) (i : Nat) : rde l (i : Int) = l.getD i 0 := by
  unfold rde
  rw [Int.toNat_natCast]
  rfl
theorem rd_cons_drop {l t : List Int} {a : Int} {i : Nat} (h : l.drop i = a :: t) : rde l (i : Int) = a ∧ i < l.length ∧ l.drop (i + 1) = t := by
  have hi : i < l.length := by
    rcases Nat.lt_or_ge i l.length with h1 | h1
    · exact h1
    · rw [List.drop_eq_nil_of_le h1] at h
      cases h
  rw [List.drop_eq_getElem_cons hi] at h
  injection h with h1 h2
  exact ⟨by rw [rd_nat, List.getD_eq_getElem?_getD, List.getElem?_eq_getElem hi]; exact h1, hi, h2⟩
theorem drop_nil_le {l : List Int} {i : Nat} (h : l.drop i = []) : l.length ≤ i := by
  rw [List.drop_eq_nil_iff] at h
  exact h
theorem wf64 {x : Int} (h : (Lit.int .i64 x).wf = true) : -9223372036854775808 ≤ x ∧ x ≤ 9223372036854775807 := by
  have h1 : (decide ((-9223372036854775808 : Int) ≤ x) && decide (x ≤ (9223372036854775807 : Int))) = true := h
  simpa using h1
end Go.Proofs.YtobblofdkpljfaaGreatDoor.Q
namespace Go.Proofs.YtobblofdkpljfaaGreatDoor.Q
open Go.RowKit Go Go.Proofs.YtobblofdkpljfaaGreatDoor.Eng Go.Proofs.YtobblofdkpljfaaGreatDoor Go.Proofs.YtobblofdkpljfaaGreatDoor.Y

def inR (x a b : Int) : Bool := decide (a ≤ x) && decide (x ≤ b)
theorem inR_iff {x a b : Int} : inR x a b = true ↔ a ≤ x ∧ x ≤ b := by simp [inR]
theorem inR_not {x a b : Int} : inR x a b = false ↔ ¬ (a ≤ x ∧ x ≤ b) := by rw [← Bool.not_eq_true, inR_iff]
theorem v_l1In (x a b : Int) : spec_l1In.f x a b = some (inR x a b) := by
  unfold spec_l1In.f inR
  by_cases h : x ≥ a
  · rw [if_pos h, decide_eq_true (show a ≤ x from h), Bool.true_and]
  · rw [if_neg h, decide_eq_false (show ¬ a ≤ x from h), Bool.false_and]
theorem v_between (x a b : Int) : impl_between.f x a b = some (inR x a b) := by
  unfold impl_between.f inR
  by_cases h : x ≥ a
  · rw [if_pos h, decide_eq_true (show a ≤ x from h), Bool.true_and]
  · rw [if_neg h, decide_eq_false (show ¬ a ≤ x from h), Bool.false_and]
end Go.Proofs.YtobblofdkpljfaaGreatDoor.Q
namespace Go.Proofs.YtobblofdkpljfaaGreatDoor.Q
open Go.RowKit Go Go.Proofs.YtobblofdkpljfaaGreatDoor.Eng Go.Proofs.YtobblofdkpljfaaGreatDoor Go.Proofs.YtobblofdkpljfaaGreatDoor.Y
set_option linter.unusedSimpArgs false

theorem num_at (x : Int) (h : 0 ≤ x ∧ x ≤ 9999) : Big (fun _ => spec_l1Num.f x) (Go.Lib.itoa x) ∧ (Go.Lib.itoa x).length ≤ 4 := by
  refine ⟨Big.of (by unfold spec_l1Num.f; rw [if_pos h]), ?_⟩
  obtain ⟨n, rfl⟩ : ∃ n : Nat, x = (n : Int) := ⟨x.toNat, by omega⟩
  have := (l1Num_r 4 n (by omega) (by omega) (by omega)).2
  unfold Go.Lib.itoa
  rw [if_neg (by omega)]
  exact this
theorem join_snoc (xs : List (List UInt8)) (y sep : List UInt8) (h : xs ≠ []) : Go.Lib.join (xs ++ [y]) sep = Go.Lib.join xs sep ++ sep ++ y := by
  cases xs with
  | nil => exact absurd rfl h
  | cons x r =>
    rw [List.cons_append, Go.Lib.join_cons, Go.Lib.join_cons]
    simp [Go.Lib.joinTail, List.append_assoc]
theorem Big.pos {α : Type} {c : Prop} [Decidable c] {f g : Nat → Option α} {r : α} (h : c) (hb : Big f r) : Big (fun k => if c then f k else g k) r := by
  simpa only [if_pos h] using hb
theorem Big.neg {α : Type} {c : Prop} [Decidable c] {f g : Nat → Option α} {r : α} (h : ¬ c) (hb : Big g r) : Big (fun k => if c then f k else g k) r := by
  simpa only [if_neg h] using hb
theorem joinTail_len (sep : List UInt8) (B : Nat) (r : List (List UInt8)) (h : ∀ x ∈ r, x.length ≤ B) : (Go.Lib.joinTail sep r).length ≤ r.length * (B + sep.length) := by
  induction r with
  | nil => simp [Go.Lib.joinTail]
  | cons y r ih =>
    have e : Go.Lib.joinTail sep (y :: r) = sep ++ y ++ Go.Lib.joinTail sep r := by simp [Go.Lib.joinTail]
    have h1 := ih fun x hx => h x (List.mem_cons_of_mem _ hx)
    have h2 := h y List.mem_cons_self
    rw [e, List.length_append, List.length_append, List.length_cons, Nat.succ_mul]
    omega
theorem join_len (sep : List UInt8) (B : Nat) (r : List (List UInt8)) (h : ∀ x ∈ r, x.length ≤ B) : (Go.Lib.join r sep).length ≤ r.length * (B + sep.length) := by
  cases r with
  | nil => simp [Go.Lib.join_nil]
  | cons x r =>
    have h1 := joinTail_len sep B r fun x hx => h x (List.mem_cons_of_mem _ hx)
    have h2 := h x List.mem_cons_self
    rw [Go.Lib.join_cons, List.length_append, List.length_cons, Nat.succ_mul]
    omega
end Go.Proofs.YtobblofdkpljfaaGreatDoor.Q
namespace Go.Proofs.YtobblofdkpljfaaGreatDoor.Q
open Go.RowKit

/-- A text, split at each byte c. -/
def sp (c : UInt8) : List UInt8 → List (List UInt8)
  | [] => [[]]
  | b :: l => if b = c then [] :: sp c l else ((b :: (sp c l).headD []) :: (sp c l).tail)
theorem sp_miss {c : UInt8} : ∀ {l : List UInt8}, c ∉ l → sp c l = [l]
  | [], _ => rfl
  | b :: l, h => by
    have h1 : ¬ b = c := fun e => h (e ▸ List.mem_cons_self)
    have h2 := sp_miss (c := c) (l := l) (fun e => h (List.mem_cons_of_mem _ e))
    rw [sp, if_neg h1, h2]
    rfl
theorem sp_hit {c : UInt8} (v : List UInt8) : ∀ {u : List UInt8}, c ∉ u → sp c (u ++ c :: v) = u :: sp c v
  | [], _ => by rw [List.nil_append, sp, if_pos rfl]
  | b :: u, h => by
    have h1 : ¬ b = c := fun e => h (e ▸ List.mem_cons_self)
    have h2 := sp_hit (c := c) v (u := u) (fun e => h (List.mem_cons_of_mem _ e))
    rw [List.cons_append, sp, if_neg h1, h2]
    rfl
theorem sp_ne (c : UInt8) : ∀ l : List UInt8, sp c l ≠ []
  | [] => by simp [sp]
  | b :: l => by
    rw [sp]
    split <;> simp
theorem sp_len (c : UInt8) : ∀ l : List UInt8, (sp c l).length ≤ l.length + 1
  | [] => by simp [sp]
  | b :: l => by
    have ih := sp_len c l
    have hn := sp_ne c l
    rw [sp]
    split
    · simp only [List.length_cons]
      omega
    · cases h : sp c l with
      | nil => exact absurd h hn
      | cons x r =>
        rw [h] at ih
        simp only [List.length_cons, List.tail_cons] at ih ⊢
        omega
theorem sp_word (c : UInt8) : ∀ (l w : List UInt8), w ∈ sp c l → w.length ≤ l.length
  | [], w, h => by
    simp [sp] at h
    simp [h]
  | b :: l, w, h => by
    have ih := sp_word c l
    rw [sp] at h
    split at h
    · rcases List.mem_cons.1 h with rfl | h
      · simp
      · have := ih w h
        simp only [List.length_cons]
        omega
    · cases hs : sp c l with
      | nil => exact absurd hs (sp_ne c l)
      | cons x r =>
        rw [hs] at h ih
        rcases List.mem_cons.1 h with rfl | h
        · have := ih x List.mem_cons_self
          simp only [List.headD_cons, List.length_cons]
          omega
        · have := ih w (List.mem_cons_of_mem _ h)
          simp only [List.length_cons]
          omega
theorem at_or (c : UInt8) : ∀ l : List UInt8, c ∉ l ∨ ∃ u v, l = u ++ c :: v ∧ c ∉ u
  | [] => .inl (by simp)
  | b :: l => by
    by_cases e : b = c
    · exact .inr ⟨[], l, by rw [e]; rfl, by simp⟩
    · rcases at_or c l with h | ⟨u, v, h1, h2⟩
      · exact .inl (by
          intro hm
          rcases List.mem_cons.1 hm with h3 | h3
          · exact e h3.symm
          · exact h h3)
      · exact .inr ⟨b :: u, v, by rw [h1]; rfl, by
          intro hm
          rcases List.mem_cons.1 hm with h3 | h3
          · exact e h3.symm
          · exact h2 h3⟩
theorem join_two (x y : List UInt8) (r : List (List UInt8)) (sep : List UInt8) : Go.Lib.join (x :: y :: r) sep = x ++ sep ++ Go.Lib.join (y :: r) sep := by
  simp [Go.Lib.join_cons, Go.Lib.joinTail, List.append_assoc]
theorem sp_join (c : UInt8) : ∀ ws : List (List UInt8), ws ≠ [] → (∀ w ∈ ws, c ∉ w) → sp c (Go.Lib.join ws [c]) = ws
  | [], h, _ => absurd rfl h
  | [x], _, hw => by rw [Go.Lib.join_one, sp_miss (hw x List.mem_cons_self)]
  | x :: y :: r, _, hw => by
    rw [join_two, List.append_assoc, List.singleton_append, sp_hit _ (hw x List.mem_cons_self), sp_join c (y :: r) (by simp) (fun w h => hw w (List.mem_cons_of_mem _ h))]
theorem join_sp (c : UInt8) (n : Nat) : ∀ l : List UInt8, l.length ≤ n → Go.Lib.join (sp c l) [c] = l := by
  induction n with
  | zero =>
    intro l hl
    have : l = [] := List.length_eq_zero_iff.mp (by omega)
    subst this
    rfl
  | succ n ih =>
    intro l hl
    rcases at_or c l with h | ⟨u, v, rfl, hu⟩
    · rw [sp_miss h, Go.Lib.join_one]
    · rw [sp_hit v hu]
      have h2 := ih v (by simp only [List.length_append, List.length_cons] at hl; omega)
      cases hs : sp c v with
      | nil => exact absurd hs (sp_ne c v)
      | cons x r => rw [join_two, ← hs, h2, List.append_assoc, List.singleton_append]
theorem index_one (c : UInt8) : ∀ s : List UInt8, (c ∉ s ∧ Go.Lib.index s [c] = -1) ∨ ∃ u v, s = u ++ c :: v ∧ c ∉ u ∧ Go.Lib.index s [c] = (u.length : Int)
  | [] => .inl ⟨by simp, rfl⟩
  | b :: l => by
    by_cases e : b = c
    · subst e
      exact .inr ⟨[], l, rfl, by simp, by simp [Go.Lib.index, List.isPrefixOf]⟩
    · have hp : ([c] : List UInt8).isPrefixOf (b :: l) = false := by simp [List.isPrefixOf, Ne.symm e]
      have hix : Go.Lib.index (b :: l) [c] = if Go.Lib.index l [c] == -1 then -1 else Go.Lib.index l [c] + 1 := by rw [Go.Lib.index, hp]; simp
      rcases index_one c l with ⟨h1, h2⟩ | ⟨u, v, h1, h2, h3⟩
      · refine .inl ⟨fun hm => ?_, by rw [hix, h2]; rfl⟩
        rcases List.mem_cons.1 hm with h4 | h4
        · exact e h4.symm
        · exact h1 h4
      · refine .inr ⟨b :: u, v, by rw [h1]; rfl, fun hm => ?_, ?_⟩
        · rcases List.mem_cons.1 hm with h4 | h4
          · exact e h4.symm
          · exact h2 h4
        · rw [hix, h3, if_neg (by rw [beq_iff_eq]; omega), List.length_cons]
          omega
theorem splitK_sp (c : UInt8) : ∀ (k : Nat) (s : List UInt8), Go.Lib.count s [c] = k → Go.Lib.splitK [c] 0 k s = sp c s
  | 0, s, h => by
    rw [Go.Lib.count_one, List.count_eq_zero] at h
    rw [sp_miss h]
    rfl
  | k + 1, s, h => by
    rw [Go.Lib.count_one] at h
    rcases index_one c s with ⟨h1, _⟩ | ⟨u, v, rfl, hu, hx⟩
    · rw [List.count_eq_zero.2 h1] at h
      omega
    · have hv : Go.Lib.count v [c] = k := by
        rw [Go.Lib.count_one]
        rw [List.count_append, List.count_eq_zero.2 hu, List.count_cons_self] at h
        omega
      have e1 : ((Go.Lib.index (u ++ c :: v) [c]).toNat) = u.length := by rw [hx]; omega
      rw [Go.Lib.splitK, if_neg (by rw [beq_iff_eq, hx]; omega), e1, sp_hit v hu, Nat.add_zero, List.take_left' rfl, List.length_singleton]
      have e2 : (u ++ c :: v).drop (u.length + 1) = v := by
        rw [List.drop_append, List.drop_eq_nil_of_le (by omega)]
        simp
      rw [e2, splitK_sp c k v hv]
theorem splitB_sp (s : List UInt8) (c : UInt8) : (Go.Lib.splitB ⟨[c].toArray⟩ 0 (Go.Lib.countB ⟨s.toArray⟩ ⟨[c].toArray⟩) ⟨s.toArray⟩).map (·.data.toList) = sp c s := by
  rw [Go.Lib.splitB_data]
  exact splitK_sp c _ _ rfl
end Go.Proofs.YtobblofdkpljfaaGreatDoor.Q
namespace Go.Proofs.YtobblofdkpljfaaGreatDoor.Q
open Go.RowKit Go.Proofs.YtobblofdkpljfaaGreatDoor.Eng

/-- The value of digits behind a value. -/
def dv (acc : Nat) (l : List UInt8) : Nat := l.foldl (fun a b => a * 10 + (b.toNat - 48)) acc
theorem dig_nat (n : Nat) (h : n < 10) : (UInt8.ofNat (48 + n)).toNat = 48 + n := by
  rw [UInt8.toNat_ofNat']
  omega
theorem dd_all (n : Nat) : ∀ b ∈ Go.Lib.decDigits n, 48 ≤ b.toNat ∧ b.toNat ≤ 57 := by
  induction n using Nat.strongRecOn with
  | ind n ih =>
    intro b hb
    rw [Go.Lib.decDigits] at hb
    split at hb
    · rename_i h
      rw [List.mem_singleton] at hb
      rw [hb, dig_nat n h]
      omega
    · rw [List.mem_append, List.mem_singleton] at hb
      rcases hb with hb | hb
      · exact ih (n / 10) (by omega) b hb
      · rw [hb, dig_nat (n % 10) (by omega)]
        omega
theorem dd_val (n : Nat) : dv 0 (Go.Lib.decDigits n) = n := by
  induction n using Nat.strongRecOn with
  | ind n ih =>
    rw [Go.Lib.decDigits]
    split
    · rename_i h
      simp only [dv, List.foldl_cons, List.foldl_nil, dig_nat n h]
      omega
    · have h1 := ih (n / 10) (by omega)
      unfold dv at h1 ⊢
      rw [List.foldl_append, h1]
      simp only [List.foldl_cons, List.foldl_nil, dig_nat (n % 10) (by omega)]
      omega
theorem dd_head (n : Nat) : ∃ b l, Go.Lib.decDigits n = b :: l ∧ (b = 48 → n = 0) := by
  induction n using Nat.strongRecOn with
  | ind n ih =>
    rw [Go.Lib.decDigits]
    split
    · rename_i h
      refine ⟨_, [], rfl, fun e => ?_⟩
      have h1 := congrArg UInt8.toNat e
      rw [dig_nat n h] at h1
      have : (48 : UInt8).toNat = 48 := rfl
      omega
    · rename_i h
      obtain ⟨b, l, h1, h2⟩ := ih (n / 10) (by omega)
      rw [h1]
      refine ⟨b, l ++ [UInt8.ofNat (48 + n % 10)], rfl, fun e => ?_⟩
      have := h2 e
      omega
theorem dd_zero : Go.Lib.decDigits 0 = [48] := by
  rw [Go.Lib.decDigits]
  rfl
theorem no_comma (x : Int) (h : 0 ≤ x) (c : UInt8) (hc : c.toNat < 48 ∨ 57 < c.toNat) : c ∉ Go.Lib.itoa x := by
  intro hm
  unfold Go.Lib.itoa at hm
  rw [if_neg (by omega)] at hm
  have := dd_all _ c hm
  omega
theorem parse_at : ∀ (l : List UInt8) (acc m : Nat), acc < 10 ^ m → m + l.length ≤ 18 → (∀ b ∈ l, 48 ≤ b.toNat ∧ b.toNat ≤ 57) → Go.Lib.parseUint10 acc l = .ok (dv acc l)
  | [], _, _, _, _, _ => rfl
  | b :: l, acc, m, ha, hm, hb => by
    have h1 := hb b List.mem_cons_self
    rw [List.length_cons] at hm
    have hp : 10 ^ m ≤ 10 ^ 17 := Nat.pow_le_pow_right (by omega) (by omega)
    have ha2 : acc * 10 + (b.toNat - 48) < 10 ^ (m + 1) := by
      rw [Nat.pow_succ]
      omega
    rw [Go.Lib.parseUint10, if_pos h1, if_neg (by omega), if_neg (by omega), parse_at l _ (m + 1) ha2 (by omega) (fun b h => hb b (List.mem_cons_of_mem _ h))]
    rfl
theorem atoi_itoa (x : Int) (h : 0 ≤ x ∧ x ≤ 999999) : Go.Lib.atoiAll (Go.Lib.itoa x) = .ok x := by
  obtain ⟨n, rfl⟩ : ∃ n : Nat, x = (n : Int) := ⟨x.toNat, by omega⟩
  have hl := Go.Lib.itoa_length_le (n : Int) (by omega) (by omega)
  have hd : Go.Lib.itoa (n : Int) = Go.Lib.decDigits n := by
    unfold Go.Lib.itoa
    rw [if_neg (by omega), Int.toNat_natCast]
  rw [hd]
  have hlen : (Go.Lib.decDigits n).length ≤ 6 := by
    have : ∀ d n : Nat, n < 10 ^ d → 1 ≤ d → (Go.Lib.decDigits n).length ≤ d := by
      intro d
      induction d with
      | zero =>
        intro n _ h
        omega
      | succ d ih =>
        intro n hn _
        rw [Go.Lib.decDigits]
        split
        · simp
        · have h10 : n / 10 < 10 ^ d := by
            rw [Nat.pow_succ] at hn
            omega
          have hd : 1 ≤ d := by
            rcases Nat.eq_zero_or_pos d with h0 | h0
            · subst h0
              omega
            · exact h0
          have := ih (n / 10) h10 hd
          rw [List.length_append, List.length_singleton]
          omega
    exact this 6 n (by omega) (by omega)
  obtain ⟨b, l, e, _⟩ := dd_head n
  have hb := dd_all n b (by rw [e]; exact List.mem_cons_self)
  have hp := parse_at (Go.Lib.decDigits n) 0 0 (by omega) (by omega) (dd_all n)
  rw [dd_val] at hp
  rw [e] at hp ⊢
  rw [Go.Lib.atoiAll_plain b l (by omega) (by omega), Go.Lib.parseMag, if_neg (by simp), hp, Go.Lib.signless, if_neg (by omega)]
theorem bt_list (a : List UInt8) (i : Nat) (h : i < a.length) : ((rde a (i : Int)).toNat : Int) = ((a[i]).toNat : Int) := by
  unfold rde
  rw [Int.toNat_natCast, List.getD_eq_getElem?_getD, List.getElem?_eq_getElem h, Option.getD_some]
end Go.Proofs.YtobblofdkpljfaaGreatDoor.Q
namespace Go.Proofs.YtobblofdkpljfaaGreatDoor.Q
open Go.RowKit Go Go.Proofs.YtobblofdkpljfaaGreatDoor.Eng Go.Proofs.YtobblofdkpljfaaGreatDoor Go.Proofs.YtobblofdkpljfaaGreatDoor.Y
set_option linter.unusedSimpArgs false

theorem u8_64 (x : Int) : IntKind.i64.wrap (IntKind.u8.wrap x) = x % 256 := by
  have : IntKind.u8.wrap x = x % 256 := rfl
  rw [this]
  exact w64 (by omega) (by omega)
theorem l1Split_l (a : (List UInt8)) (hs : a.length ≤ 1048576) (c : UInt8) (d : Nat) : ∀ (i f : Nat) (out : List (List UInt8)), i + d = a.length → f ≤ i → c ∉ (a.drop f).take (i - f) → out.length ≤ i → Big (fun k => spec_l1Split.l0 k a (c.toNat : Int) out f i) (out ++ (sp c (a.drop f))) := by
  have hlen : a.length = a.length := rfl
  induction d with
  | zero =>
    intro i f out hi hf hc ho
    refine Big.succ ?_
    unfold spec_l1Split.l0
    refine Big.neg (by omega) ?_
    refine Big.pos (by omega) ?_
    refine Big.pos (by omega) ?_
    refine Big.pos (by omega) ?_
    rw [List.take_of_length_le (by rw [List.length_drop]; omega)] at hc
    have e : a.drop ((f : Int).toNat) = (a.drop f) := by
      rw [Int.toNat_natCast]
    rw [sp_miss hc, e]
    exact Big.some_ _
  | succ d ih =>
    intro i f out hi hf hc ho
    have hlt : i < a.length := by omega
    have hdrop : a.drop f = (a.drop f).take (i - f) ++ a[i] :: a.drop (i + 1) := by
      have h1 := (List.take_append_drop (i - f) (a.drop f)).symm
      rw [List.drop_drop, show f + (i - f) = i by omega, List.drop_eq_getElem_cons hlt] at h1
      exact h1
    refine Big.succ ?_
    unfold spec_l1Split.l0
    rw [bt_list a i hlt, w64n (by omega)]
    refine Big.pos (by omega) ?_
    refine Big.pos (by omega) ?_
    by_cases hb : a[i] = c
    · refine Big.pos (by rw [hb]) ?_
      refine Big.pos (by omega) ?_
      refine Big.pos (by omega) ?_
      refine Big.pos (by omega) ?_
      refine Big.pos (by omega) ?_
      have e : (a.take ((i : Int).toNat)).drop ((f : Int).toNat) = ((a.drop f).take (i - f)) := by
        rw [Int.toNat_natCast, Int.toNat_natCast, List.drop_take]
      have e2 : out ++ (sp c (a.drop f)) = (out ++ [((a.drop f).take (i - f))]) ++ (sp c (a.drop (i + 1))) := by
        conv => lhs; rw [hdrop, hb, sp_hit _ hc]
        simp
      rw [e, e2]
      exact ih (i + 1) (i + 1) _ (by omega) (Nat.le_refl _) (by simp) (by rw [List.length_append, List.length_singleton]; omega)
    · refine Big.neg (fun h => hb (UInt8.toNat_inj.mp (by omega))) ?_
      refine ih (i + 1) f out (by omega) (by omega) ?_ (by omega)
      rw [show i + 1 - f = (i - f) + 1 by omega, List.take_succ_eq_append_getElem (by rw [List.length_drop]; omega), List.mem_append, List.mem_singleton]
      rintro (h | h)
      · exact hc h
      · apply hb
        rw [h, List.getElem_drop]
        congr 1
        omega
theorem l1Split_at (a : (List UInt8)) (hs : a.length ≤ 1048576) (c : UInt8) : Big (fun k => spec_l1Split.f k a (c.toNat : Int)) ((sp c a)) :=
  l1Split_l a hs c a.length 0 0 [] (by omega) (Nat.le_refl _) (by simp) (by simp)
theorem l1Read_l (a : (List UInt8)) (hs : a.length ≤ 6) (t : List UInt8) : ∀ i acc : Nat, a.drop i = t → i ≤ a.length → acc < 10 ^ i → (∀ b ∈ t, 48 ≤ b.toNat ∧ b.toNat ≤ 57) → Big (fun k => spec_l1Read.l0 k a (acc : Int) (i : Int)) (dv acc t : Int) := by
  have hlen : a.length = a.length := rfl
  induction t with
  | nil =>
    intro i acc hd hi ha _
    rw [List.drop_eq_nil_iff] at hd
    refine Big.succ ?_
    unfold spec_l1Read.l0
    refine Big.neg (by omega) ?_
    exact Big.some_ _
  | cons b t ih =>
    intro i acc hd hi ha hb
    have hlt : i < a.length := by
      rcases Nat.lt_or_ge i a.length with h | h
      · exact h
      · rw [List.drop_eq_nil_of_le h] at hd
        cases hd
    rw [List.drop_eq_getElem_cons hlt] at hd
    injection hd with h1 h2
    have hbb := hb b List.mem_cons_self
    have hp : 10 ^ i ≤ 10 ^ 6 := Nat.pow_le_pow_right (by omega) (by omega)
    refine Big.succ ?_
    unfold spec_l1Read.l0
    rw [bt_list a i hlt, h1, w64n (by omega)]
    refine Big.pos (by omega) ?_
    refine Big.pos (by omega) ?_
    refine Big.neg (by omega) ?_
    refine Big.neg (by omega) ?_
    have e : IntKind.i64.wrap (IntKind.i64.wrap (10 * (acc : Int)) + ((b.toNat : Int) - 48) % 256) = ((acc * 10 + (b.toNat - 48) : Nat) : Int) := by
      rw [w64 (i := 10 * (acc : Int)) (by omega) (by omega), w64 (by omega) (by omega)]
      omega
    rw [u8_64, e]
    exact ih (i + 1) _ h2 (by omega) (by rw [Nat.pow_succ]; omega) (fun b h => hb b (List.mem_cons_of_mem _ h))
theorem l1Read_end (a : (List UInt8)) (hs : a.length ≤ 6) (d : Nat) : ∀ (i : Nat) (acc : Int), i + d = a.length → ∃ v, Big (fun k => spec_l1Read.l0 k a acc (i : Int)) v := by
  induction d with
  | zero =>
    intro i acc hi
    refine ⟨acc, Big.succ ?_⟩
    unfold spec_l1Read.l0
    exact Big.neg (by omega) (Big.some_ _)
  | succ d ih =>
    intro i acc hi
    by_cases h1 : ((rde a (i : Int)).toNat : Int) < 48
    · refine ⟨-1, Big.succ ?_⟩
      unfold spec_l1Read.l0
      exact Big.pos (by omega) (Big.pos (by omega) (Big.pos h1 (Big.some_ _)))
    · by_cases h2 : ((rde a (i : Int)).toNat : Int) > 57
      · refine ⟨-1, Big.succ ?_⟩
        unfold spec_l1Read.l0
        exact Big.pos (by omega) (Big.pos (by omega) (Big.neg h1 (Big.pos h2 (Big.some_ _))))
      · obtain ⟨v, hv⟩ := ih (i + 1) (IntKind.i64.wrap (IntKind.i64.wrap (10 * acc) + (((rde a (i : Int)).toNat : Int) - 48) % 256)) (by omega)
        refine ⟨v, Big.succ ?_⟩
        unfold spec_l1Read.l0
        rw [w64n (by omega), u8_64]
        exact Big.pos (by omega) (Big.pos (by omega) (Big.neg h1 (Big.neg h2 hv)))
theorem l1Read_j (a : (List UInt8)) (hs : a.length ≤ 6) (b : Bool) : ∃ v, Big (fun k => spec_l1Read.j0 k a b) v := by
  cases b
  · obtain ⟨v, hv⟩ := l1Read_end a hs a.length 0 0 (by omega)
    refine ⟨v, Big.succ ?_⟩
    unfold spec_l1Read.j0
    exact Big.neg (by decide) hv
  · refine ⟨-1, Big.succ ?_⟩
    unfold spec_l1Read.j0
    exact Big.pos rfl (Big.some_ _)
theorem l1Read_tot (a : (List UInt8)) : ∃ v, Big (fun k => spec_l1Read.f k a) v := by
  unfold spec_l1Read.f
  simp only [v_l1In, Option.bind_some]
  cases h : inR (a.length : Int) 1 6
  · refine ⟨-1, Big.neg (by decide) (Big.succ ?_)⟩
    unfold spec_l1Read.j0
    exact Big.pos rfl (Big.some_ _)
  · rw [inR_iff] at h
    by_cases h0 : ((rde a 0).toNat : Int) = 48
    · obtain ⟨v, hv⟩ := l1Read_j a (by omega) (decide ((a.length : Int) > 1))
      exact ⟨v, Big.pos rfl (Big.pos (by omega) (Big.pos h0 hv))⟩
    · obtain ⟨v, hv⟩ := l1Read_j a (by omega) false
      exact ⟨v, Big.pos rfl (Big.pos (by omega) (Big.neg h0 hv))⟩
theorem l1Read_at (x : Int) (h : 0 ≤ x ∧ x ≤ 9999) : Big (fun k => spec_l1Read.f k ((Go.Lib.itoa x))) x := by
  have hl4 := (num_at x h).2
  obtain ⟨n, rfl⟩ : ∃ n : Nat, x = (n : Int) := ⟨x.toNat, by omega⟩
  have hd : Go.Lib.itoa (n : Int) = Go.Lib.decDigits n := by
    unfold Go.Lib.itoa
    rw [if_neg (by omega), Int.toNat_natCast]
  rw [hd] at hl4 ⊢
  obtain ⟨b, l, e, hz⟩ := dd_head n
  have hpos : 1 ≤ (Go.Lib.decDigits n).length := by
    rw [e, List.length_cons]
    omega
  have hsz : ((Go.Lib.decDigits n)).length = (Go.Lib.decDigits n).length := rfl
  have hL := l1Read_l ((Go.Lib.decDigits n)) (by omega) (Go.Lib.decDigits n) 0 0 rfl (by omega) (by omega) (dd_all n)
  rw [dd_val] at hL
  have hj : Big (fun k => spec_l1Read.j0 k ((Go.Lib.decDigits n)) false) (n : Int) := by
    refine Big.succ ?_
    unfold spec_l1Read.j0
    exact Big.neg (by decide) hL
  unfold spec_l1Read.f
  simp only [v_l1In, Option.bind_some, inR_iff.mpr (show (1 : Int) ≤ (((Go.Lib.decDigits n)).length : Int) ∧ (((Go.Lib.decDigits n)).length : Int) ≤ 6 by omega)]
  refine Big.pos trivial (Big.pos (by omega) ?_)
  have hb0 : ((rde (Go.Lib.decDigits n) 0).toNat : Int) = (b.toNat : Int) := by
    have := bt_list ((Go.Lib.decDigits n)) 0 (by omega)
    simp only [e, List.getElem_cons_zero] at this
    rw [e]
    exact this
  by_cases hb : b = 48
  · have h0 := hz hb
    subst h0
    refine Big.pos (by rw [hb0, hb]; rfl) ?_
    have e1 : decide ((((Go.Lib.decDigits 0)).length : Int) > 1) = false := decide_eq_false (by rw [dd_zero, List.length_singleton]; omega)
    rw [e1]
    exact hj
  · refine Big.neg (fun h => hb (UInt8.toNat_inj.mp ?_)) hj
    have : (48 : UInt8).toNat = 48 := rfl
    omega
end Go.Proofs.YtobblofdkpljfaaGreatDoor.Q
namespace Go.Proofs.YtobblofdkpljfaaGreatDoor.Q
open Go.RowKit Go Go.Proofs.YtobblofdkpljfaaGreatDoor.Eng Go.Proofs.YtobblofdkpljfaaGreatDoor Go.Proofs.YtobblofdkpljfaaGreatDoor.Y
set_option linter.unusedSimpArgs false

theorem Join_at (xs : List (List UInt8)) (sep : List UInt8) (hn : xs.length ≤ 140737488355328) (hj : (Go.Lib.join xs sep).length ≤ 140737488355328) : S.strings_Join.f xs sep = some (Go.Lib.join xs sep) := by
  unfold S.strings_Join.f
  rw [if_pos ⟨hn, hj⟩]
theorem Itoa_at (x : Int) (h : -9223372036854775808 ≤ x ∧ x ≤ 9223372036854775807) : S.strconv_Itoa.f x = some (Go.Lib.itoa x) := by
  unfold S.strconv_Itoa.f
  rw [if_pos h]
theorem Split_at (s : (List UInt8)) (c : UInt8) (hs : s.length < 4294967281) : S.strings_Split.f s ([c]) = some ((sp c s)) := by
  unfold S.strings_Split.f
  rw [if_pos ⟨hs, by simp⟩, splitB_sp]
theorem word_at (x : Int) (h : 0 ≤ x ∧ x ≤ 999999) : S.readWord ((Go.Lib.itoa x)) = (x, true) := by
  unfold S.readWord
  rw [atoi_itoa x h]
  show (x, Go.Lib.itoa x == Go.Lib.itoa x) = _
  rw [beq_self_eq_true]
theorem word_of (w : (List UInt8)) (h : (S.readWord w).2 = true) : w = Go.Lib.itoa (S.readWord w).1 := by
  unfold S.readWord at h ⊢
  cases hA : Go.Lib.atoiAll w with
  | ok v =>
    rw [hA] at h
    have h1 : (Go.Lib.itoa v == w) = true := h
    rw [beq_iff_eq] at h1
    show w = Go.Lib.itoa v
    rw [← h1]
  | range => rw [hA] at h; cases h
  | _ => rw [hA] at h; cases h
end Go.Proofs.YtobblofdkpljfaaGreatDoor.Q
