/- The text of a number: the reference's own digits are the library's. Condition: a number from 0 to 100000. -/
import Derived.Test.YtknigfnbhlmlgaaDoorQpBig
import Derived.Lib.ItoaLen
import Derived.Test.YtknigfnbhlmlgaaDoorP2
namespace Go.Proofs.YtknigfnbhlmlgaaDoor.Q
open Go.RowKit Go.Proofs.YtknigfnbhlmlgaaDoor.P Go.Proofs.YtknigfnbhlmlgaaDoorW.PrintWords Go.Proofs.YtknigfnbhlmlgaaDoorW.PrintLast
set_option linter.unusedSimpArgs false

/-- A text of bytes. -/
def bs (l : List UInt8) : ByteArray := ⟨l.toArray⟩
theorem bs_size (l : List UInt8) : (bs l).size = l.length := by simp [bs, ByteArray.size]
theorem bs_append (a b : List UInt8) : bs a ++ bs b = bs (a ++ b) := by
  apply ByteArray.ext
  simp [bs]
theorem dig_one (n : Nat) (h : n < 10) : strOfNums [wrap64 (48 + (n : Int)) % 256] = bs [UInt8.ofNat (48 + n)] := by
  rw [w64 (by omega) (by omega)]
  have e : (48 + (n : Int)) % 256 = ((48 + n : Nat) : Int) := by omega
  rw [e]
  rfl
theorem l1Num_at (d : Nat) : ∀ n : Nat, n < 10 ^ d → n ≤ 9999 → 1 ≤ d → Big (fun k => spec_l1Num.f k (n : Int)) (bs (Go.Lib.decDigits n)) ∧ (Go.Lib.decDigits n).length ≤ d := by
  induction d with
  | zero => intro n _ _ h; omega
  | succ d ih =>
    intro n hn hm _
    rw [Go.Lib.decDigits]
    by_cases h : n < 10
    · rw [dif_pos h]
      refine ⟨Big.succ ?_, by simp⟩
      simp only [spec_l1Num.f, if_pos (show (n : Int) < 10 by omega), dig_one n h]
      exact Big.some_ _
    · rw [dif_neg h]
      have hd : 1 ≤ d := by
        rcases Nat.eq_zero_or_pos d with h0 | h0
        · subst h0
          omega
        · exact h0
      have h10 : n / 10 < 10 ^ d := by
        rw [Nat.pow_succ] at hn
        omega
      obtain ⟨b, hl⟩ := ih (n / 10) h10 (by omega) hd
      refine ⟨Big.succ ?_, by rw [List.length_append, List.length_singleton]; omega⟩
      have e1 : wrap64 (Int.tdiv (n : Int) 10) = ((n / 10 : Nat) : Int) := by
        rw [show Int.tdiv (n : Int) 10 = ((n / 10 : Nat) : Int) from rfl]
        exact w64 (by omega) (by omega)
      have e2 : Int.tmod (n : Int) 10 = ((n % 10 : Nat) : Int) := rfl
      simp only [spec_l1Num.f, if_neg (show ¬ (n : Int) < 10 by omega), e1, e2]
      refine Big.bind b ?_
      simp only [Option.bind_some, dig_one (n % 10) (by omega), bs_size, List.length_singleton]
      rw [bs_append]
      have hlen : (Go.Lib.decDigits (n / 10)).length + 1 ≤ 9223372036854775807 := by
        have : d ≤ 9223372036854775806 ∨ 9223372036854775806 < d := by omega
        rcases this with h1 | h1
        · omega
        · have h4 : (Go.Lib.decDigits (n / 10)).length ≤ 21 := by
            have := Go.Lib.itoa_length_le ((n / 10 : Nat) : Int) (by omega) (by omega)
            unfold Go.Lib.itoa at this
            rw [if_neg (by omega), Int.toNat_natCast] at this
            exact this
          omega
      simp only [if_pos hlen]
      exact Big.some_ _
theorem num_at (x : Int) (h : 0 ≤ x ∧ x ≤ 9999) : Big (fun k => spec_l1Num.f k x) (bs (Go.Lib.itoa x)) ∧ (Go.Lib.itoa x).length ≤ 4 := by
  obtain ⟨n, rfl⟩ : ∃ n : Nat, x = (n : Int) := ⟨x.toNat, by omega⟩
  have := l1Num_at 4 n (by omega) (by omega) (by omega)
  unfold Go.Lib.itoa
  rw [if_neg (by omega)]
  exact this
theorem join_snoc (xs : List (List UInt8)) (y sep : List UInt8) (h : xs ≠ []) : Go.Lib.join (xs ++ [y]) sep = Go.Lib.join xs sep ++ sep ++ y := by
  cases xs with
  | nil => exact absurd rfl h
  | cons x r =>
    rw [List.cons_append, Go.Lib.join_cons, Go.Lib.join_cons]
    simp [Go.Lib.joinTail, List.append_assoc]
theorem Big.pos {α : Type} {c : Prop} [Decidable c] {f g : Nat → Option α} {r : α} (h : c) (hb : Big f r) : Big (fun k => if c then f k else g k) r := by
  simpa only [if_pos h] using hb
theorem Big.neg {α : Type} {c : Prop} [Decidable c] {f g : Nat → Option α} {r : α} (h : ¬ c) (hb : Big g r) : Big (fun k => if c then f k else g k) r := by
  simpa only [if_neg h] using hb
theorem bs_data (l : List UInt8) : (bs l).data.toList = l := by simp [bs]
theorem joinTail_len (sep : List UInt8) (B : Nat) (r : List (List UInt8)) (h : ∀ x ∈ r, x.length ≤ B) : (Go.Lib.joinTail sep r).length ≤ r.length * (B + sep.length) := by
  induction r with
  | nil => simp [Go.Lib.joinTail]
  | cons y r ih =>
    have e : Go.Lib.joinTail sep (y :: r) = sep ++ y ++ Go.Lib.joinTail sep r := by simp [Go.Lib.joinTail]
    have h1 := ih fun x hx => h x (List.mem_cons_of_mem _ hx)
    have h2 := h y List.mem_cons_self
    rw [e, List.length_append, List.length_append, List.length_cons, Nat.succ_mul]
    omega
theorem join_len (sep : List UInt8) (B : Nat) (r : List (List UInt8)) (h : ∀ x ∈ r, x.length ≤ B) : (Go.Lib.join r sep).length ≤ r.length * (B + sep.length) := by
  cases r with
  | nil => simp [Go.Lib.join_nil]
  | cons x r =>
    have h1 := joinTail_len sep B r fun x hx => h x (List.mem_cons_of_mem _ hx)
    have h2 := h x List.mem_cons_self
    rw [Go.Lib.join_cons, List.length_append, List.length_cons, Nat.succ_mul]
    omega
end Go.Proofs.YtknigfnbhlmlgaaDoor.Q
