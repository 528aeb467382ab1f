/- Plain lemmas on functions that take a number of rounds: what such a function answers at all large numbers of rounds. No condition. -/
import Derived.Test.YtknigfnbhlmlgaaDoorO0
import Derived.Lib.ItoaLen
import Derived.Test.YtknigfnbhlmlgaaDoorO4
import Derived.Lib.SplitLaws
import Derived.Lib.CutLaws
import Derived.Lib.AtoiAllCases
import Derived.Lib.ItoaWalk
namespace Go.Proofs.YtknigfnbhlmlgaaDoor.Q
open Go.RowKit Go.Proofs.YtknigfnbhlmlgaaDoor.O Go.Proofs.YtknigfnbhlmlgaaDoorW.PrintWords Go.Proofs.YtknigfnbhlmlgaaDoorW.PrintLast

/-- From some number of rounds on, the answer is r. -/
def Big {α : Type} (g : Nat → Option α) (r : α) : Prop := ∃ K, ∀ k, K ≤ k → g k = some r
theorem Big.bind {α β : Type} {g : Nat → Option α} {a : α} {h : Nat → α → Option β} {r : β} (h1 : Big g a) (h2 : Big (fun k => h k a) r) : Big (fun k => (g k).bind (h k)) r := by
  obtain ⟨K1, h1⟩ := h1
  obtain ⟨K2, h2⟩ := h2
  exact ⟨K1 + K2, fun k hk => by show (g k).bind (h k) = some r; rw [h1 k (by omega), Option.bind_some]; exact h2 k (by omega)⟩
theorem Big.of {α : Type} {a : Option α} {r : α} (h : a = some r) : Big (fun _ => a) r := ⟨0, fun _ _ => h⟩
theorem Big.some_ {α : Type} (r : α) : Big (fun _ => some r) r := ⟨0, fun _ _ => rfl⟩
theorem Big.succ {α : Type} {g : Nat → Option α} {r : α} (h : Big (fun k => g (k + 1)) r) : Big g r := by
  obtain ⟨K, h⟩ := h
  exact ⟨K + 1, fun k hk => by obtain ⟨m, rfl⟩ : ∃ m, k = m + 1 := ⟨k - 1, by omega⟩; exact h m (by omega)⟩
theorem Big.exists_ {α : Type} {g : Nat → Option α} {r : α} (h : Big g r) : ∃ k, g k = some r := by
  obtain ⟨K, h⟩ := h
  exact ⟨K, h K (Nat.le_refl _)⟩
theorem Big.uniq {α : Type} {g : Nat → Option α} {r s : α} (h : Big g r) (h' : Big g s) : r = s := by
  obtain ⟨K, h⟩ := h
  obtain ⟨K', h'⟩ := h'
  have := (h (K + K') (by omega)).symm.trans (h' (K + K') (by omega))
  exact Option.some.inj this
theorem Big.cast {α : Type} {g : Nat → Option α} {r s : α} (h : Big g r) (e : r = s) : Big g s := e ▸ h

theorem w64 {i : Int} (h0 : -9223372036854775808 ≤ i) (h1 : i ≤ 9223372036854775807) : wrap64 i = i := by
  unfold wrap64
  omega
theorem w64n {i : Nat} (h1 : i < 9223372036854775807) : wrap64 ((i : Int) + 1) = ((i + 1 : Nat) : Int) := by
  unfold wrap64
  omega
theorem rd_nat (l : List Int) (i : Nat) : rd l (i : Int) = l.getD i 0 := by
  unfold rd
  rw [Int.toNat_natCast]
theorem rd_cons_drop {l t : List Int} {a : Int} {i : Nat} (h : l.drop i = a :: t) : rd l (i : Int) = a ∧ i < l.length ∧ l.drop (i + 1) = t := by
  have hi : i < l.length := by
    rcases Nat.lt_or_ge i l.length with h1 | h1
    · exact h1
    · rw [List.drop_eq_nil_of_le h1] at h
      cases h
  rw [List.drop_eq_getElem_cons hi] at h
  injection h with h1 h2
  exact ⟨by rw [rd_nat, List.getD_eq_getElem?_getD, List.getElem?_eq_getElem hi]; exact h1, hi, h2⟩
theorem drop_nil_le {l : List Int} {i : Nat} (h : l.drop i = []) : l.length ≤ i := by
  rw [List.drop_eq_nil_iff] at h
  exact h
theorem wf64 {x : Int} (h : (Lit.int .i64 x).wf = true) : -9223372036854775808 ≤ x ∧ x ≤ 9223372036854775807 := by
  have h1 : (decide ((-9223372036854775808 : Int) ≤ x) && decide (x ≤ (9223372036854775807 : Int))) = true := h
  simpa using h1
end Go.Proofs.YtknigfnbhlmlgaaDoor.Q

namespace Go.Proofs.YtknigfnbhlmlgaaDoor.Q
open Go.RowKit Go.Proofs.YtknigfnbhlmlgaaDoor.O Go.Proofs.YtknigfnbhlmlgaaDoorW.PrintWords Go.Proofs.YtknigfnbhlmlgaaDoorW.PrintLast
set_option linter.unusedSimpArgs false

/-- A text of bytes. -/
def bs (l : List UInt8) : ByteArray := ⟨l.toArray⟩
theorem bs_size (l : List UInt8) : (bs l).size = l.length := by simp [bs, ByteArray.size]
theorem bs_append (a b : List UInt8) : bs a ++ bs b = bs (a ++ b) := by
  apply ByteArray.ext
  simp [bs]
theorem dig_one (n : Nat) (h : n < 10) : strOfNums [wrap64 (48 + (n : Int)) % 256] = bs [UInt8.ofNat (48 + n)] := by
  rw [w64 (by omega) (by omega)]
  have e : (48 + (n : Int)) % 256 = ((48 + n : Nat) : Int) := by omega
  rw [e]
  rfl
theorem l1Num_at (d : Nat) : ∀ n : Nat, n < 10 ^ d → n ≤ 9999 → 1 ≤ d → Big (fun k => spec_l1Num.f k (n : Int)) (bs (Go.Lib.decDigits n)) ∧ (Go.Lib.decDigits n).length ≤ d := by
  induction d with
  | zero => intro n _ _ h; omega
  | succ d ih =>
    intro n hn hm _
    rw [Go.Lib.decDigits]
    by_cases h : n < 10
    · rw [dif_pos h]
      refine ⟨Big.succ ?_, by simp⟩
      simp only [spec_l1Num.f, if_pos (show (n : Int) < 10 by omega), dig_one n h]
      exact Big.some_ _
    · rw [dif_neg h]
      have hd : 1 ≤ d := by
        rcases Nat.eq_zero_or_pos d with h0 | h0
        · subst h0
          omega
        · exact h0
      have h10 : n / 10 < 10 ^ d := by
        rw [Nat.pow_succ] at hn
        omega
      obtain ⟨b, hl⟩ := ih (n / 10) h10 (by omega) hd
      refine ⟨Big.succ ?_, by rw [List.length_append, List.length_singleton]; omega⟩
      have e1 : wrap64 (Int.tdiv (n : Int) 10) = ((n / 10 : Nat) : Int) := by
        rw [show Int.tdiv (n : Int) 10 = ((n / 10 : Nat) : Int) from rfl]
        exact w64 (by omega) (by omega)
      have e2 : Int.tmod (n : Int) 10 = ((n % 10 : Nat) : Int) := rfl
      simp only [spec_l1Num.f, if_neg (show ¬ (n : Int) < 10 by omega), e1, e2]
      refine Big.bind b ?_
      simp only [Option.bind_some, dig_one (n % 10) (by omega), bs_size, List.length_singleton]
      rw [bs_append]
      have hlen : (Go.Lib.decDigits (n / 10)).length + 1 ≤ 9223372036854775807 := by
        have : d ≤ 9223372036854775806 ∨ 9223372036854775806 < d := by omega
        rcases this with h1 | h1
        · omega
        · have h4 : (Go.Lib.decDigits (n / 10)).length ≤ 21 := by
            have := Go.Lib.itoa_length_le ((n / 10 : Nat) : Int) (by omega) (by omega)
            unfold Go.Lib.itoa at this
            rw [if_neg (by omega), Int.toNat_natCast] at this
            exact this
          omega
      simp only [if_pos hlen]
      exact Big.some_ _
theorem num_at (x : Int) (h : 0 ≤ x ∧ x ≤ 9999) : Big (fun k => spec_l1Num.f k x) (bs (Go.Lib.itoa x)) ∧ (Go.Lib.itoa x).length ≤ 4 := by
  obtain ⟨n, rfl⟩ : ∃ n : Nat, x = (n : Int) := ⟨x.toNat, by omega⟩
  have := l1Num_at 4 n (by omega) (by omega) (by omega)
  unfold Go.Lib.itoa
  rw [if_neg (by omega)]
  exact this
theorem join_snoc (xs : List (List UInt8)) (y sep : List UInt8) (h : xs ≠ []) : Go.Lib.join (xs ++ [y]) sep = Go.Lib.join xs sep ++ sep ++ y := by
  cases xs with
  | nil => exact absurd rfl h
  | cons x r =>
    rw [List.cons_append, Go.Lib.join_cons, Go.Lib.join_cons]
    simp [Go.Lib.joinTail, List.append_assoc]
theorem Big.pos {α : Type} {c : Prop} [Decidable c] {f g : Nat → Option α} {r : α} (h : c) (hb : Big f r) : Big (fun k => if c then f k else g k) r := by
  simpa only [if_pos h] using hb
theorem Big.neg {α : Type} {c : Prop} [Decidable c] {f g : Nat → Option α} {r : α} (h : ¬ c) (hb : Big g r) : Big (fun k => if c then f k else g k) r := by
  simpa only [if_neg h] using hb
theorem bs_data (l : List UInt8) : (bs l).data.toList = l := by simp [bs]
theorem joinTail_len (sep : List UInt8) (B : Nat) (r : List (List UInt8)) (h : ∀ x ∈ r, x.length ≤ B) : (Go.Lib.joinTail sep r).length ≤ r.length * (B + sep.length) := by
  induction r with
  | nil => simp [Go.Lib.joinTail]
  | cons y r ih =>
    have e : Go.Lib.joinTail sep (y :: r) = sep ++ y ++ Go.Lib.joinTail sep r := by simp [Go.Lib.joinTail]
    have h1 := ih fun x hx => h x (List.mem_cons_of_mem _ hx)
    have h2 := h y List.mem_cons_self
    rw [e, List.length_append, List.length_append, List.length_cons, Nat.succ_mul]
    omega
theorem join_len (sep : List UInt8) (B : Nat) (r : List (List UInt8)) (h : ∀ x ∈ r, x.length ≤ B) : (Go.Lib.join r sep).length ≤ r.length * (B + sep.length) := by
  cases r with
  | nil => simp [Go.Lib.join_nil]
  | cons x r =>
    have h1 := joinTail_len sep B r fun x hx => h x (List.mem_cons_of_mem _ hx)
    have h2 := h x List.mem_cons_self
    rw [Go.Lib.join_cons, List.length_append, List.length_cons, Nat.succ_mul]
    omega
end Go.Proofs.YtknigfnbhlmlgaaDoor.Q

namespace Go.Proofs.YtknigfnbhlmlgaaDoor.Q
open Go.RowKit

/-- A text, split at each byte c. -/
def sp (c : UInt8) : List UInt8 → List (List UInt8)
  | [] => [[]]
  | b :: l => if b = c then [] :: sp c l else ((b :: (sp c l).headD []) :: (sp c l).tail)
theorem sp_miss {c : UInt8} : ∀ {l : List UInt8}, c ∉ l → sp c l = [l]
  | [], _ => rfl
  | b :: l, h => by
    have h1 : ¬ b = c := fun e => h (e ▸ List.mem_cons_self)
    have h2 := sp_miss (c := c) (l := l) (fun e => h (List.mem_cons_of_mem _ e))
    rw [sp, if_neg h1, h2]
    rfl
theorem sp_hit {c : UInt8} (v : List UInt8) : ∀ {u : List UInt8}, c ∉ u → sp c (u ++ c :: v) = u :: sp c v
  | [], _ => by rw [List.nil_append, sp, if_pos rfl]
  | b :: u, h => by
    have h1 : ¬ b = c := fun e => h (e ▸ List.mem_cons_self)
    have h2 := sp_hit (c := c) v (u := u) (fun e => h (List.mem_cons_of_mem _ e))
    rw [List.cons_append, sp, if_neg h1, h2]
    rfl
theorem sp_ne (c : UInt8) : ∀ l : List UInt8, sp c l ≠ []
  | [] => by simp [sp]
  | b :: l => by
    rw [sp]
    split <;> simp
theorem sp_len (c : UInt8) : ∀ l : List UInt8, (sp c l).length ≤ l.length + 1
  | [] => by simp [sp]
  | b :: l => by
    have ih := sp_len c l
    have hn := sp_ne c l
    rw [sp]
    split
    · simp only [List.length_cons]
      omega
    · cases h : sp c l with
      | nil => exact absurd h hn
      | cons x r =>
        rw [h] at ih
        simp only [List.length_cons, List.tail_cons] at ih ⊢
        omega
theorem sp_word (c : UInt8) : ∀ (l w : List UInt8), w ∈ sp c l → w.length ≤ l.length
  | [], w, h => by
    simp [sp] at h
    simp [h]
  | b :: l, w, h => by
    have ih := sp_word c l
    rw [sp] at h
    split at h
    · rcases List.mem_cons.1 h with rfl | h
      · simp
      · have := ih w h
        simp only [List.length_cons]
        omega
    · cases hs : sp c l with
      | nil => exact absurd hs (sp_ne c l)
      | cons x r =>
        rw [hs] at h ih
        rcases List.mem_cons.1 h with rfl | h
        · have := ih x List.mem_cons_self
          simp only [List.headD_cons, List.length_cons]
          omega
        · have := ih w (List.mem_cons_of_mem _ h)
          simp only [List.length_cons]
          omega
theorem at_or (c : UInt8) : ∀ l : List UInt8, c ∉ l ∨ ∃ u v, l = u ++ c :: v ∧ c ∉ u
  | [] => .inl (by simp)
  | b :: l => by
    by_cases e : b = c
    · exact .inr ⟨[], l, by rw [e]; rfl, by simp⟩
    · rcases at_or c l with h | ⟨u, v, h1, h2⟩
      · exact .inl (by
          intro hm
          rcases List.mem_cons.1 hm with h3 | h3
          · exact e h3.symm
          · exact h h3)
      · exact .inr ⟨b :: u, v, by rw [h1]; rfl, by
          intro hm
          rcases List.mem_cons.1 hm with h3 | h3
          · exact e h3.symm
          · exact h2 h3⟩
theorem join_two (x y : List UInt8) (r : List (List UInt8)) (sep : List UInt8) : Go.Lib.join (x :: y :: r) sep = x ++ sep ++ Go.Lib.join (y :: r) sep := by
  simp [Go.Lib.join_cons, Go.Lib.joinTail, List.append_assoc]
theorem sp_join (c : UInt8) : ∀ ws : List (List UInt8), ws ≠ [] → (∀ w ∈ ws, c ∉ w) → sp c (Go.Lib.join ws [c]) = ws
  | [], h, _ => absurd rfl h
  | [x], _, hw => by rw [Go.Lib.join_one, sp_miss (hw x List.mem_cons_self)]
  | x :: y :: r, _, hw => by
    rw [join_two, List.append_assoc, List.singleton_append, sp_hit _ (hw x List.mem_cons_self), sp_join c (y :: r) (by simp) (fun w h => hw w (List.mem_cons_of_mem _ h))]
theorem join_sp (c : UInt8) (n : Nat) : ∀ l : List UInt8, l.length ≤ n → Go.Lib.join (sp c l) [c] = l := by
  induction n with
  | zero =>
    intro l hl
    have : l = [] := List.length_eq_zero_iff.mp (by omega)
    subst this
    rfl
  | succ n ih =>
    intro l hl
    rcases at_or c l with h | ⟨u, v, rfl, hu⟩
    · rw [sp_miss h, Go.Lib.join_one]
    · rw [sp_hit v hu]
      have h2 := ih v (by simp only [List.length_append, List.length_cons] at hl; omega)
      cases hs : sp c v with
      | nil => exact absurd hs (sp_ne c v)
      | cons x r => rw [join_two, ← hs, h2, List.append_assoc, List.singleton_append]
theorem index_one (c : UInt8) : ∀ s : List UInt8, (c ∉ s ∧ Go.Lib.index s [c] = -1) ∨ ∃ u v, s = u ++ c :: v ∧ c ∉ u ∧ Go.Lib.index s [c] = (u.length : Int)
  | [] => .inl ⟨by simp, rfl⟩
  | b :: l => by
    by_cases e : b = c
    · subst e
      exact .inr ⟨[], l, rfl, by simp, by simp [Go.Lib.index, List.isPrefixOf]⟩
    · have hp : ([c] : List UInt8).isPrefixOf (b :: l) = false := by simp [List.isPrefixOf, Ne.symm e]
      have hix : Go.Lib.index (b :: l) [c] = if Go.Lib.index l [c] == -1 then -1 else Go.Lib.index l [c] + 1 := by rw [Go.Lib.index, hp]; simp
      rcases index_one c l with ⟨h1, h2⟩ | ⟨u, v, h1, h2, h3⟩
      · refine .inl ⟨fun hm => ?_, by rw [hix, h2]; rfl⟩
        rcases List.mem_cons.1 hm with h4 | h4
        · exact e h4.symm
        · exact h1 h4
      · refine .inr ⟨b :: u, v, by rw [h1]; rfl, fun hm => ?_, ?_⟩
        · rcases List.mem_cons.1 hm with h4 | h4
          · exact e h4.symm
          · exact h2 h4
        · rw [hix, h3, if_neg (by rw [beq_iff_eq]; omega), List.length_cons]
          omega
theorem splitK_sp (c : UInt8) : ∀ (k : Nat) (s : List UInt8), Go.Lib.count s [c] = k → Go.Lib.splitK [c] 0 k s = sp c s
  | 0, s, h => by
    rw [Go.Lib.count_one, List.count_eq_zero] at h
    rw [sp_miss h]
    rfl
  | k + 1, s, h => by
    rw [Go.Lib.count_one] at h
    rcases index_one c s with ⟨h1, _⟩ | ⟨u, v, rfl, hu, hx⟩
    · rw [List.count_eq_zero.2 h1] at h
      omega
    · have hv : Go.Lib.count v [c] = k := by
        rw [Go.Lib.count_one]
        rw [List.count_append, List.count_eq_zero.2 hu, List.count_cons_self] at h
        omega
      have e1 : ((Go.Lib.index (u ++ c :: v) [c]).toNat) = u.length := by rw [hx]; omega
      rw [Go.Lib.splitK, if_neg (by rw [beq_iff_eq, hx]; omega), e1, sp_hit v hu, Nat.add_zero, List.take_left' rfl, List.length_singleton]
      have e2 : (u ++ c :: v).drop (u.length + 1) = v := by
        rw [List.drop_append, List.drop_eq_nil_of_le (by omega)]
        simp
      rw [e2, splitK_sp c k v hv]
theorem data_bs (a : ByteArray) : bs a.data.toList = a := by
  apply ByteArray.ext
  simp [bs]
theorem map_bs (L : List ByteArray) : (L.map fun b => b.data.toList).map bs = L := by
  rw [List.map_map]
  exact List.map_id'' data_bs L
theorem splitB_sp (s : ByteArray) (c : UInt8) : Go.Lib.splitB (bs [c]) 0 (Go.Lib.countB s (bs [c])) s = (sp c s.data.toList).map bs := by
  have e := Go.Lib.splitB_data (bs [c]) 0 (Go.Lib.countB s (bs [c])) s
  rw [bs_data] at e
  rw [← map_bs (Go.Lib.splitB _ _ _ _), e, splitK_sp c _ _ (by show _ = Go.Lib.count s.data.toList (bs [c]).data.toList; rw [bs_data])]
end Go.Proofs.YtknigfnbhlmlgaaDoor.Q

namespace Go.Proofs.YtknigfnbhlmlgaaDoor.Q
open Go.RowKit

/-- The value of digits behind a value. -/
def dv (acc : Nat) (l : List UInt8) : Nat := l.foldl (fun a b => a * 10 + (b.toNat - 48)) acc
theorem dig_nat (n : Nat) (h : n < 10) : (UInt8.ofNat (48 + n)).toNat = 48 + n := by
  rw [UInt8.toNat_ofNat']
  omega
theorem dd_all (n : Nat) : ∀ b ∈ Go.Lib.decDigits n, 48 ≤ b.toNat ∧ b.toNat ≤ 57 := by
  induction n using Nat.strongRecOn with
  | ind n ih =>
    intro b hb
    rw [Go.Lib.decDigits] at hb
    split at hb
    · rename_i h
      rw [List.mem_singleton] at hb
      rw [hb, dig_nat n h]
      omega
    · rw [List.mem_append, List.mem_singleton] at hb
      rcases hb with hb | hb
      · exact ih (n / 10) (by omega) b hb
      · rw [hb, dig_nat (n % 10) (by omega)]
        omega
theorem dd_val (n : Nat) : dv 0 (Go.Lib.decDigits n) = n := by
  induction n using Nat.strongRecOn with
  | ind n ih =>
    rw [Go.Lib.decDigits]
    split
    · rename_i h
      simp only [dv, List.foldl_cons, List.foldl_nil, dig_nat n h]
      omega
    · have h1 := ih (n / 10) (by omega)
      unfold dv at h1 ⊢
      rw [List.foldl_append, h1]
      simp only [List.foldl_cons, List.foldl_nil, dig_nat (n % 10) (by omega)]
      omega
theorem dd_head (n : Nat) : ∃ b l, Go.Lib.decDigits n = b :: l ∧ (b = 48 → n = 0) := by
  induction n using Nat.strongRecOn with
  | ind n ih =>
    rw [Go.Lib.decDigits]
    split
    · rename_i h
      refine ⟨_, [], rfl, fun e => ?_⟩
      have h1 := congrArg UInt8.toNat e
      rw [dig_nat n h] at h1
      have : (48 : UInt8).toNat = 48 := rfl
      omega
    · rename_i h
      obtain ⟨b, l, h1, h2⟩ := ih (n / 10) (by omega)
      rw [h1]
      refine ⟨b, l ++ [UInt8.ofNat (48 + n % 10)], rfl, fun e => ?_⟩
      have := h2 e
      omega
theorem dd_zero : Go.Lib.decDigits 0 = [48] := by
  rw [Go.Lib.decDigits]
  rfl
theorem no_comma (x : Int) (h : 0 ≤ x) (c : UInt8) (hc : c.toNat < 48 ∨ 57 < c.toNat) : c ∉ Go.Lib.itoa x := by
  intro hm
  unfold Go.Lib.itoa at hm
  rw [if_neg (by omega)] at hm
  have := dd_all _ c hm
  omega
theorem parse_at : ∀ (l : List UInt8) (acc m : Nat), acc < 10 ^ m → m + l.length ≤ 18 → (∀ b ∈ l, 48 ≤ b.toNat ∧ b.toNat ≤ 57) → Go.Lib.parseUint10 acc l = .ok (dv acc l)
  | [], _, _, _, _, _ => rfl
  | b :: l, acc, m, ha, hm, hb => by
    have h1 := hb b List.mem_cons_self
    rw [List.length_cons] at hm
    have hp : 10 ^ m ≤ 10 ^ 17 := Nat.pow_le_pow_right (by omega) (by omega)
    have ha2 : acc * 10 + (b.toNat - 48) < 10 ^ (m + 1) := by
      rw [Nat.pow_succ]
      omega
    rw [Go.Lib.parseUint10, if_pos h1, if_neg (by omega), if_neg (by omega), parse_at l _ (m + 1) ha2 (by omega) (fun b h => hb b (List.mem_cons_of_mem _ h))]
    rfl
theorem atoi_itoa (x : Int) (h : 0 ≤ x ∧ x ≤ 999999) : Go.Lib.atoiAll (Go.Lib.itoa x) = .ok x := by
  obtain ⟨n, rfl⟩ : ∃ n : Nat, x = (n : Int) := ⟨x.toNat, by omega⟩
  have hl := Go.Lib.itoa_length_le (n : Int) (by omega) (by omega)
  have hd : Go.Lib.itoa (n : Int) = Go.Lib.decDigits n := by
    unfold Go.Lib.itoa
    rw [if_neg (by omega), Int.toNat_natCast]
  rw [hd]
  have hlen : (Go.Lib.decDigits n).length ≤ 6 := by
    have : ∀ d n : Nat, n < 10 ^ d → 1 ≤ d → (Go.Lib.decDigits n).length ≤ d := by
      intro d
      induction d with
      | zero =>
        intro n _ h
        omega
      | succ d ih =>
        intro n hn _
        rw [Go.Lib.decDigits]
        split
        · simp
        · have h10 : n / 10 < 10 ^ d := by
            rw [Nat.pow_succ] at hn
            omega
          have hd : 1 ≤ d := by
            rcases Nat.eq_zero_or_pos d with h0 | h0
            · subst h0
              omega
            · exact h0
          have := ih (n / 10) h10 hd
          rw [List.length_append, List.length_singleton]
          omega
    exact this 6 n (by omega) (by omega)
  obtain ⟨b, l, e, _⟩ := dd_head n
  have hb := dd_all n b (by rw [e]; exact List.mem_cons_self)
  have hp := parse_at (Go.Lib.decDigits n) 0 0 (by omega) (by omega) (dd_all n)
  rw [dd_val] at hp
  rw [e] at hp ⊢
  rw [Go.Lib.atoiAll_plain b l (by omega) (by omega), Go.Lib.parseMag, if_neg (by simp), hp, Go.Lib.signless, if_neg (by omega)]
theorem bt_list (a : ByteArray) (i : Nat) (h : i < a.data.toList.length) : Go.Proofs.YtknigfnbhlmlgaaDoorW.PrintWords.bt a (i : Int) = ((a.data.toList[i]).toNat : Int) := by
  have hs : i < a.size := by
    rw [Go.Lib.size_eq]
    exact h
  unfold Go.Proofs.YtknigfnbhlmlgaaDoorW.PrintWords.bt
  rw [dif_pos (by rw [Int.toNat_natCast]; exact hs)]
  have := Go.Lib.getD_at a i hs
  rw [List.getD_eq_getElem?_getD, List.getElem?_eq_getElem h, Option.getD_some] at this
  rw [← this]
  simp only [Int.toNat_natCast]
end Go.Proofs.YtknigfnbhlmlgaaDoor.Q
