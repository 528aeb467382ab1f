/- A text, split at each byte of one kind: plain laws. No condition. -/
import Derived.Test.YtknigfnbhlmlgaaDoorQpNumQ
import Derived.Lib.SplitLaws
import Derived.Lib.CutLaws
namespace Go.Proofs.YtknigfnbhlmlgaaDoor.Q
open Go.RowKit

/-- A text, split at each byte c. -/
def sp (c : UInt8) : List UInt8 → List (List UInt8)
  | [] => [[]]
  | b :: l => if b = c then [] :: sp c l else ((b :: (sp c l).headD []) :: (sp c l).tail)
theorem sp_miss {c : UInt8} : ∀ {l : List UInt8}, c ∉ l → sp c l = [l]
  | [], _ => rfl
  | b :: l, h => by
    have h1 : ¬ b = c := fun e => h (e ▸ List.mem_cons_self)
    have h2 := sp_miss (c := c) (l := l) (fun e => h (List.mem_cons_of_mem _ e))
    rw [sp, if_neg h1, h2]
    rfl
theorem sp_hit {c : UInt8} (v : List UInt8) : ∀ {u : List UInt8}, c ∉ u → sp c (u ++ c :: v) = u :: sp c v
  | [], _ => by rw [List.nil_append, sp, if_pos rfl]
  | b :: u, h => by
    have h1 : ¬ b = c := fun e => h (e ▸ List.mem_cons_self)
    have h2 := sp_hit (c := c) v (u := u) (fun e => h (List.mem_cons_of_mem _ e))
    rw [List.cons_append, sp, if_neg h1, h2]
    rfl
theorem sp_ne (c : UInt8) : ∀ l : List UInt8, sp c l ≠ []
  | [] => by simp [sp]
  | b :: l => by
    rw [sp]
    split <;> simp
theorem sp_len (c : UInt8) : ∀ l : List UInt8, (sp c l).length ≤ l.length + 1
  | [] => by simp [sp]
  | b :: l => by
    have ih := sp_len c l
    have hn := sp_ne c l
    rw [sp]
    split
    · simp only [List.length_cons]
      omega
    · cases h : sp c l with
      | nil => exact absurd h hn
      | cons x r =>
        rw [h] at ih
        simp only [List.length_cons, List.tail_cons] at ih ⊢
        omega
theorem sp_word (c : UInt8) : ∀ (l w : List UInt8), w ∈ sp c l → w.length ≤ l.length
  | [], w, h => by
    simp [sp] at h
    simp [h]
  | b :: l, w, h => by
    have ih := sp_word c l
    rw [sp] at h
    split at h
    · rcases List.mem_cons.1 h with rfl | h
      · simp
      · have := ih w h
        simp only [List.length_cons]
        omega
    · cases hs : sp c l with
      | nil => exact absurd hs (sp_ne c l)
      | cons x r =>
        rw [hs] at h ih
        rcases List.mem_cons.1 h with rfl | h
        · have := ih x List.mem_cons_self
          simp only [List.headD_cons, List.length_cons]
          omega
        · have := ih w (List.mem_cons_of_mem _ h)
          simp only [List.length_cons]
          omega
theorem at_or (c : UInt8) : ∀ l : List UInt8, c ∉ l ∨ ∃ u v, l = u ++ c :: v ∧ c ∉ u
  | [] => .inl (by simp)
  | b :: l => by
    by_cases e : b = c
    · exact .inr ⟨[], l, by rw [e]; rfl, by simp⟩
    · rcases at_or c l with h | ⟨u, v, h1, h2⟩
      · exact .inl (by
          intro hm
          rcases List.mem_cons.1 hm with h3 | h3
          · exact e h3.symm
          · exact h h3)
      · exact .inr ⟨b :: u, v, by rw [h1]; rfl, by
          intro hm
          rcases List.mem_cons.1 hm with h3 | h3
          · exact e h3.symm
          · exact h2 h3⟩
theorem join_two (x y : List UInt8) (r : List (List UInt8)) (sep : List UInt8) : Go.Lib.join (x :: y :: r) sep = x ++ sep ++ Go.Lib.join (y :: r) sep := by
  simp [Go.Lib.join_cons, Go.Lib.joinTail, List.append_assoc]
theorem sp_join (c : UInt8) : ∀ ws : List (List UInt8), ws ≠ [] → (∀ w ∈ ws, c ∉ w) → sp c (Go.Lib.join ws [c]) = ws
  | [], h, _ => absurd rfl h
  | [x], _, hw => by rw [Go.Lib.join_one, sp_miss (hw x List.mem_cons_self)]
  | x :: y :: r, _, hw => by
    rw [join_two, List.append_assoc, List.singleton_append, sp_hit _ (hw x List.mem_cons_self), sp_join c (y :: r) (by simp) (fun w h => hw w (List.mem_cons_of_mem _ h))]
theorem join_sp (c : UInt8) (n : Nat) : ∀ l : List UInt8, l.length ≤ n → Go.Lib.join (sp c l) [c] = l := by
  induction n with
  | zero =>
    intro l hl
    have : l = [] := List.length_eq_zero_iff.mp (by omega)
    subst this
    rfl
  | succ n ih =>
    intro l hl
    rcases at_or c l with h | ⟨u, v, rfl, hu⟩
    · rw [sp_miss h, Go.Lib.join_one]
    · rw [sp_hit v hu]
      have h2 := ih v (by simp only [List.length_append, List.length_cons] at hl; omega)
      cases hs : sp c v with
      | nil => exact absurd hs (sp_ne c v)
      | cons x r => rw [join_two, ← hs, h2, List.append_assoc, List.singleton_append]
theorem index_one (c : UInt8) : ∀ s : List UInt8, (c ∉ s ∧ Go.Lib.index s [c] = -1) ∨ ∃ u v, s = u ++ c :: v ∧ c ∉ u ∧ Go.Lib.index s [c] = (u.length : Int)
  | [] => .inl ⟨by simp, rfl⟩
  | b :: l => by
    by_cases e : b = c
    · subst e
      exact .inr ⟨[], l, rfl, by simp, by simp [Go.Lib.index, List.isPrefixOf]⟩
    · have hp : ([c] : List UInt8).isPrefixOf (b :: l) = false := by simp [List.isPrefixOf, Ne.symm e]
      have hix : Go.Lib.index (b :: l) [c] = if Go.Lib.index l [c] == -1 then -1 else Go.Lib.index l [c] + 1 := by rw [Go.Lib.index, hp]; simp
      rcases index_one c l with ⟨h1, h2⟩ | ⟨u, v, h1, h2, h3⟩
      · refine .inl ⟨fun hm => ?_, by rw [hix, h2]; rfl⟩
        rcases List.mem_cons.1 hm with h4 | h4
        · exact e h4.symm
        · exact h1 h4
      · refine .inr ⟨b :: u, v, by rw [h1]; rfl, fun hm => ?_, ?_⟩
        · rcases List.mem_cons.1 hm with h4 | h4
          · exact e h4.symm
          · exact h2 h4
        · rw [hix, h3, if_neg (by rw [beq_iff_eq]; omega), List.length_cons]
          omega
theorem splitK_sp (c : UInt8) : ∀ (k : Nat) (s : List UInt8), Go.Lib.count s [c] = k → Go.Lib.splitK [c] 0 k s = sp c s
  | 0, s, h => by
    rw [Go.Lib.count_one, List.count_eq_zero] at h
    rw [sp_miss h]
    rfl
  | k + 1, s, h => by
    rw [Go.Lib.count_one] at h
    rcases index_one c s with ⟨h1, _⟩ | ⟨u, v, rfl, hu, hx⟩
    · rw [List.count_eq_zero.2 h1] at h
      omega
    · have hv : Go.Lib.count v [c] = k := by
        rw [Go.Lib.count_one]
        rw [List.count_append, List.count_eq_zero.2 hu, List.count_cons_self] at h
        omega
      have e1 : ((Go.Lib.index (u ++ c :: v) [c]).toNat) = u.length := by rw [hx]; omega
      rw [Go.Lib.splitK, if_neg (by rw [beq_iff_eq, hx]; omega), e1, sp_hit v hu, Nat.add_zero, List.take_left' rfl, List.length_singleton]
      have e2 : (u ++ c :: v).drop (u.length + 1) = v := by
        rw [List.drop_append, List.drop_eq_nil_of_le (by omega)]
        simp
      rw [e2, splitK_sp c k v hv]
theorem data_bs (a : ByteArray) : bs a.data.toList = a := by
  apply ByteArray.ext
  simp [bs]
theorem map_bs (L : List ByteArray) : (L.map fun b => b.data.toList).map bs = L := by
  rw [List.map_map]
  exact List.map_id'' data_bs L
theorem splitB_sp (s : ByteArray) (c : UInt8) : Go.Lib.splitB (bs [c]) 0 (Go.Lib.countB s (bs [c])) s = (sp c s.data.toList).map bs := by
  have e := Go.Lib.splitB_data (bs [c]) 0 (Go.Lib.countB s (bs [c])) s
  rw [bs_data] at e
  rw [← map_bs (Go.Lib.splitB _ _ _ _), e, splitK_sp c _ _ (by show _ = Go.Lib.count s.data.toList (bs [c]).data.toList; rw [bs_data])]
end Go.Proofs.YtknigfnbhlmlgaaDoor.Q
