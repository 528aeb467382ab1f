/- Plain lemmas on functions that take a number of rounds: what such a function answers at all large numbers of rounds. No condition. -/
import Derived.Test.YtknigfnbhlmlgaaDoorP0
namespace Go.Proofs.YtknigfnbhlmlgaaDoor.Q
open Go.RowKit Go.Proofs.YtknigfnbhlmlgaaDoor.P Go.Proofs.YtknigfnbhlmlgaaDoorW.PrintWords Go.Proofs.YtknigfnbhlmlgaaDoorW.PrintLast

/-- From some number of rounds on, the answer is r. -/
def Big {α : Type} (g : Nat → Option α) (r : α) : Prop := ∃ K, ∀ k, K ≤ k → g k = some r
theorem Big.bind {α β : Type} {g : Nat → Option α} {a : α} {h : Nat → α → Option β} {r : β} (h1 : Big g a) (h2 : Big (fun k => h k a) r) : Big (fun k => (g k).bind (h k)) r := by
  obtain ⟨K1, h1⟩ := h1
  obtain ⟨K2, h2⟩ := h2
  exact ⟨K1 + K2, fun k hk => by show (g k).bind (h k) = some r; rw [h1 k (by omega), Option.bind_some]; exact h2 k (by omega)⟩
theorem Big.of {α : Type} {a : Option α} {r : α} (h : a = some r) : Big (fun _ => a) r := ⟨0, fun _ _ => h⟩
theorem Big.some_ {α : Type} (r : α) : Big (fun _ => some r) r := ⟨0, fun _ _ => rfl⟩
theorem Big.succ {α : Type} {g : Nat → Option α} {r : α} (h : Big (fun k => g (k + 1)) r) : Big g r := by
  obtain ⟨K, h⟩ := h
  exact ⟨K + 1, fun k hk => by obtain ⟨m, rfl⟩ : ∃ m, k = m + 1 := ⟨k - 1, by omega⟩; exact h m (by omega)⟩
theorem Big.exists_ {α : Type} {g : Nat → Option α} {r : α} (h : Big g r) : ∃ k, g k = some r := by
  obtain ⟨K, h⟩ := h
  exact ⟨K, h K (Nat.le_refl _)⟩
theorem Big.uniq {α : Type} {g : Nat → Option α} {r s : α} (h : Big g r) (h' : Big g s) : r = s := by
  obtain ⟨K, h⟩ := h
  obtain ⟨K', h'⟩ := h'
  have := (h (K + K') (by omega)).symm.trans (h' (K + K') (by omega))
  exact Option.some.inj this
theorem Big.cast {α : Type} {g : Nat → Option α} {r s : α} (h : Big g r) (e : r = s) : Big g s := e ▸ h

theorem w64 {i : Int} (h0 : -9223372036854775808 ≤ i) (h1 : i ≤ 9223372036854775807) : wrap64 i = i := by
  unfold wrap64
  omega
theorem w64n {i : Nat} (h1 : i < 9223372036854775807) : wrap64 ((i : Int) + 1) = ((i + 1 : Nat) : Int) := by
  unfold wrap64
  omega
theorem rd_nat (l : List Int) (i : Nat) : rd l (i : Int) = l.getD i 0 := by
  unfold rd
  rw [Int.toNat_natCast]
theorem rd_cons_drop {l t : List Int} {a : Int} {i : Nat} (h : l.drop i = a :: t) : rd l (i : Int) = a ∧ i < l.length ∧ l.drop (i + 1) = t := by
  have hi : i < l.length := by
    rcases Nat.lt_or_ge i l.length with h1 | h1
    · exact h1
    · rw [List.drop_eq_nil_of_le h1] at h
      cases h
  rw [List.drop_eq_getElem_cons hi] at h
  injection h with h1 h2
  exact ⟨by rw [rd_nat, List.getD_eq_getElem?_getD, List.getElem?_eq_getElem hi]; exact h1, hi, h2⟩
theorem drop_nil_le {l : List Int} {i : Nat} (h : l.drop i = []) : l.length ≤ i := by
  rw [List.drop_eq_nil_iff] at h
  exact h
theorem wf64 {x : Int} (h : (Lit.int .i64 x).wf = true) : -9223372036854775808 ≤ x ∧ x ≤ 9223372036854775807 := by
  have h1 : (decide ((-9223372036854775808 : Int) ≤ x) && decide (x ≤ (9223372036854775807 : Int))) = true := h
  simpa using h1
end Go.Proofs.YtknigfnbhlmlgaaDoor.Q
