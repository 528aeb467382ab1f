/- Decimal numerals: read back, they give the number. Conditions: as typed. -/
import Derived.Test.YtknigfnbhlmlgaaDoorQpWordsQ
import Derived.Lib.AtoiAllCases
import Derived.Lib.ItoaWalk
namespace Go.Proofs.YtknigfnbhlmlgaaDoor.Q
open Go.RowKit

/-- The value of digits behind a value. -/
def dv (acc : Nat) (l : List UInt8) : Nat := l.foldl (fun a b => a * 10 + (b.toNat - 48)) acc
theorem dig_nat (n : Nat) (h : n < 10) : (UInt8.ofNat (48 + n)).toNat = 48 + n := by
  rw [UInt8.toNat_ofNat']
  omega
theorem dd_all (n : Nat) : ∀ b ∈ Go.Lib.decDigits n, 48 ≤ b.toNat ∧ b.toNat ≤ 57 := by
  induction n using Nat.strongRecOn with
  | ind n ih =>
    intro b hb
    rw [Go.Lib.decDigits] at hb
    split at hb
    · rename_i h
      rw [List.mem_singleton] at hb
      rw [hb, dig_nat n h]
      omega
    · rw [List.mem_append, List.mem_singleton] at hb
      rcases hb with hb | hb
      · exact ih (n / 10) (by omega) b hb
      · rw [hb, dig_nat (n % 10) (by omega)]
        omega
theorem dd_val (n : Nat) : dv 0 (Go.Lib.decDigits n) = n := by
  induction n using Nat.strongRecOn with
  | ind n ih =>
    rw [Go.Lib.decDigits]
    split
    · rename_i h
      simp only [dv, List.foldl_cons, List.foldl_nil, dig_nat n h]
      omega
    · have h1 := ih (n / 10) (by omega)
      unfold dv at h1 ⊢
      rw [List.foldl_append, h1]
      simp only [List.foldl_cons, List.foldl_nil, dig_nat (n % 10) (by omega)]
      omega
theorem dd_head (n : Nat) : ∃ b l, Go.Lib.decDigits n = b :: l ∧ (b = 48 → n = 0) := by
  induction n using Nat.strongRecOn with
  | ind n ih =>
    rw [Go.Lib.decDigits]
    split
    · rename_i h
      refine ⟨_, [], rfl, fun e => ?_⟩
      have h1 := congrArg UInt8.toNat e
      rw [dig_nat n h] at h1
      have : (48 : UInt8).toNat = 48 := rfl
      omega
    · rename_i h
      obtain ⟨b, l, h1, h2⟩ := ih (n / 10) (by omega)
      rw [h1]
      refine ⟨b, l ++ [UInt8.ofNat (48 + n % 10)], rfl, fun e => ?_⟩
      have := h2 e
      omega
theorem dd_zero : Go.Lib.decDigits 0 = [48] := by
  rw [Go.Lib.decDigits]
  rfl
theorem no_comma (x : Int) (h : 0 ≤ x) (c : UInt8) (hc : c.toNat < 48 ∨ 57 < c.toNat) : c ∉ Go.Lib.itoa x := by
  intro hm
  unfold Go.Lib.itoa at hm
  rw [if_neg (by omega)] at hm
  have := dd_all _ c hm
  omega
theorem parse_at : ∀ (l : List UInt8) (acc m : Nat), acc < 10 ^ m → m + l.length ≤ 18 → (∀ b ∈ l, 48 ≤ b.toNat ∧ b.toNat ≤ 57) → Go.Lib.parseUint10 acc l = .ok (dv acc l)
  | [], _, _, _, _, _ => rfl
  | b :: l, acc, m, ha, hm, hb => by
    have h1 := hb b List.mem_cons_self
    rw [List.length_cons] at hm
    have hp : 10 ^ m ≤ 10 ^ 17 := Nat.pow_le_pow_right (by omega) (by omega)
    have ha2 : acc * 10 + (b.toNat - 48) < 10 ^ (m + 1) := by
      rw [Nat.pow_succ]
      omega
    rw [Go.Lib.parseUint10, if_pos h1, if_neg (by omega), if_neg (by omega), parse_at l _ (m + 1) ha2 (by omega) (fun b h => hb b (List.mem_cons_of_mem _ h))]
    rfl
theorem atoi_itoa (x : Int) (h : 0 ≤ x ∧ x ≤ 999999) : Go.Lib.atoiAll (Go.Lib.itoa x) = .ok x := by
  obtain ⟨n, rfl⟩ : ∃ n : Nat, x = (n : Int) := ⟨x.toNat, by omega⟩
  have hl := Go.Lib.itoa_length_le (n : Int) (by omega) (by omega)
  have hd : Go.Lib.itoa (n : Int) = Go.Lib.decDigits n := by
    unfold Go.Lib.itoa
    rw [if_neg (by omega), Int.toNat_natCast]
  rw [hd]
  have hlen : (Go.Lib.decDigits n).length ≤ 6 := by
    have : ∀ d n : Nat, n < 10 ^ d → 1 ≤ d → (Go.Lib.decDigits n).length ≤ d := by
      intro d
      induction d with
      | zero =>
        intro n _ h
        omega
      | succ d ih =>
        intro n hn _
        rw [Go.Lib.decDigits]
        split
        · simp
        · have h10 : n / 10 < 10 ^ d := by
            rw [Nat.pow_succ] at hn
            omega
          have hd : 1 ≤ d := by
            rcases Nat.eq_zero_or_pos d with h0 | h0
            · subst h0
              omega
            · exact h0
          have := ih (n / 10) h10 hd
          rw [List.length_append, List.length_singleton]
          omega
    exact this 6 n (by omega) (by omega)
  obtain ⟨b, l, e, _⟩ := dd_head n
  have hb := dd_all n b (by rw [e]; exact List.mem_cons_self)
  have hp := parse_at (Go.Lib.decDigits n) 0 0 (by omega) (by omega) (dd_all n)
  rw [dd_val] at hp
  rw [e] at hp ⊢
  rw [Go.Lib.atoiAll_plain b l (by omega) (by omega), Go.Lib.parseMag, if_neg (by simp), hp, Go.Lib.signless, if_neg (by omega)]
theorem bt_list (a : ByteArray) (i : Nat) (h : i < a.data.toList.length) : Go.Proofs.YtknigfnbhlmlgaaDoorW.PrintWords.bt a (i : Int) = ((a.data.toList[i]).toNat : Int) := by
  have hs : i < a.size := by
    rw [Go.Lib.size_eq]
    exact h
  unfold Go.Proofs.YtknigfnbhlmlgaaDoorW.PrintWords.bt
  rw [dif_pos (by rw [Int.toNat_natCast]; exact hs)]
  have := Go.Lib.getD_at a i hs
  rw [List.getD_eq_getElem?_getD, List.getElem?_eq_getElem h, Option.getD_some] at this
  rw [← this]
  simp only [Int.toNat_natCast]
end Go.Proofs.YtknigfnbhlmlgaaDoor.Q
