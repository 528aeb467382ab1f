/- The texts of births: the program's and the reference's are alike. Conditions: as typed. -/
import Derived.Test.YtknigfnbhlmlgaaDoorQtTextB
import Derived.Test.YtknigfnbhlmlgaaDoorQtBorn
import Derived.Test.YtknigfnbhlmlgaaDoorT2
import Derived.Test.YtknigfnbhlmlgaaDoorT3
namespace Go.Proofs.YtknigfnbhlmlgaaDoor.Q
open Go.RowKit Go.Proofs.YtknigfnbhlmlgaaDoor.T Go.Proofs.YtknigfnbhlmlgaaDoorW.PrintWords Go.Proofs.YtknigfnbhlmlgaaDoorW.PrintLast
set_option linter.unusedSimpArgs false

/-- A text of bytes. -/
def bs (l : List UInt8) : ByteArray := ⟨l.toArray⟩
theorem bs_size (l : List UInt8) : (bs l).size = l.length := by simp [bs, ByteArray.size]
theorem bs_append (a b : List UInt8) : bs a ++ bs b = bs (a ++ b) := by
  apply ByteArray.ext
  simp [bs]
theorem dig_one (n : Nat) (h : n < 10) : strOfNums [wrap64 (48 + (n : Int)) % 256] = bs [UInt8.ofNat (48 + n)] := by
  rw [w64 (by omega) (by omega)]
  have e : (48 + (n : Int)) % 256 = ((48 + n : Nat) : Int) := by omega
  rw [e]
  rfl
theorem l1Num_at (d : Nat) : ∀ n : Nat, n < 10 ^ d → n ≤ 2900 → 1 ≤ d → Big (fun k => spec_l1Num.f k (n : Int)) (bs (Go.Lib.decDigits n)) ∧ (Go.Lib.decDigits n).length ≤ d := by
  induction d with
  | zero => intro n _ _ h; omega
  | succ d ih =>
    intro n hn hm _
    rw [Go.Lib.decDigits]
    by_cases h : n < 10
    · rw [dif_pos h]
      refine ⟨Big.succ ?_, by simp⟩
      simp only [spec_l1Num.f, if_pos (show (n : Int) < 10 by omega), dig_one n h]
      exact Big.some_ _
    · rw [dif_neg h]
      have hd : 1 ≤ d := by
        rcases Nat.eq_zero_or_pos d with h0 | h0
        · subst h0
          omega
        · exact h0
      have h10 : n / 10 < 10 ^ d := by
        rw [Nat.pow_succ] at hn
        omega
      obtain ⟨b, hl⟩ := ih (n / 10) h10 (by omega) hd
      refine ⟨Big.succ ?_, by rw [List.length_append, List.length_singleton]; omega⟩
      have e1 : wrap64 (Int.tdiv (n : Int) 10) = ((n / 10 : Nat) : Int) := by
        rw [show Int.tdiv (n : Int) 10 = ((n / 10 : Nat) : Int) from rfl]
        exact w64 (by omega) (by omega)
      have e2 : Int.tmod (n : Int) 10 = ((n % 10 : Nat) : Int) := rfl
      simp only [spec_l1Num.f, if_neg (show ¬ (n : Int) < 10 by omega), e1, e2]
      refine Big.bind b ?_
      simp only [Option.bind_some, dig_one (n % 10) (by omega), bs_size, List.length_singleton]
      rw [bs_append]
      have hlen : (Go.Lib.decDigits (n / 10)).length + 1 ≤ 9223372036854775807 := by
        have : d ≤ 9223372036854775806 ∨ 9223372036854775806 < d := by omega
        rcases this with h1 | h1
        · omega
        · have h4 : (Go.Lib.decDigits (n / 10)).length ≤ 21 := by
            have := Go.Lib.itoa_length_le ((n / 10 : Nat) : Int) (by omega) (by omega)
            unfold Go.Lib.itoa at this
            rw [if_neg (by omega), Int.toNat_natCast] at this
            exact this
          omega
      simp only [if_pos hlen]
      exact Big.some_ _
theorem num_at (x : Int) (h : 0 ≤ x ∧ x ≤ 2900) : Big (fun k => spec_l1Num.f k x) (bs (Go.Lib.itoa x)) ∧ (Go.Lib.itoa x).length ≤ 4 := by
  obtain ⟨n, rfl⟩ : ∃ n : Nat, x = (n : Int) := ⟨x.toNat, by omega⟩
  have := l1Num_at 4 n (by omega) (by omega) (by omega)
  unfold Go.Lib.itoa
  rw [if_neg (by omega)]
  exact this
theorem join_snoc (xs : List (List UInt8)) (y sep : List UInt8) (h : xs ≠ []) : Go.Lib.join (xs ++ [y]) sep = Go.Lib.join xs sep ++ sep ++ y := by
  cases xs with
  | nil => exact absurd rfl h
  | cons x r =>
    rw [List.cons_append, Go.Lib.join_cons, Go.Lib.join_cons]
    simp [Go.Lib.joinTail, List.append_assoc]
theorem roText_l (l : List Int) (hl : l.length ≤ 10) (hb : ∀ x ∈ l, 0 ≤ x ∧ x ≤ 2900) (d : Nat) : ∀ (i : Nat) (acc : List UInt8), i + d = l.length → acc = Go.Lib.join ((l.take i).map Go.Lib.itoa) [44] → acc.length ≤ 5 * i → Big (fun k => spec_roText.l0 k (bs acc) l (l.length : Int) i) (bs (Go.Lib.join (l.map Go.Lib.itoa) [44])) := by
  induction d with
  | zero =>
    intro i acc hi ha _
    refine Big.succ ?_
    simp only [spec_roText.l0, if_neg (show ¬ (i : Int) < (l.length : Int) by omega)]
    rw [ha, List.take_of_length_le (show l.length ≤ i by omega)]
    exact Big.some_ _
  | succ d ih =>
    intro i acc hi ha hs
    have hlt : i < l.length := by omega
    have er : rd l (i : Int) = l[i] := by
      unfold rd
      rw [Int.toNat_natCast, List.getD_eq_getElem?_getD, List.getElem?_eq_getElem hlt, Option.getD_some]
    obtain ⟨hn, hlen⟩ := num_at l[i] (hb _ (List.getElem_mem hlt))
    have hsnoc : (l.take (i + 1)).map Go.Lib.itoa = (l.take i).map Go.Lib.itoa ++ [Go.Lib.itoa l[i]] := by
      rw [List.take_succ_eq_append_getElem hlt, List.map_append]
      rfl
    refine Big.succ ?_
    simp only [spec_roText.l0, if_pos (show (i : Int) < (l.length : Int) by omega), if_pos (show 0 ≤ (i : Int) by omega), er, w64n (show i < 9223372036854775807 by omega)]
    by_cases h0 : i = 0
    · subst h0
      simp only [if_neg (show ¬ ((0 : Nat) : Int) > 0 by omega)]
      refine Big.bind hn ?_
      rw [bs_append]
      simp only [bs_size, if_pos (show acc.length + (Go.Lib.itoa l[0]).length ≤ 9223372036854775807 by omega)]
      have e0 : acc ++ Go.Lib.itoa l[0] = Go.Lib.join ((l.take (0 + 1)).map Go.Lib.itoa) [44] := by
        rw [hsnoc, ha]
        simp [Go.Lib.join_nil, Go.Lib.join_one]
      exact ih (0 + 1) _ (by omega) e0 (by rw [List.length_append]; omega)
    · simp only [if_pos (show (i : Int) > 0 by omega), bs_size, if_pos (show acc.length + 1 ≤ 9223372036854775807 by omega)]
      refine Big.bind hn ?_
      rw [show (⟨#[44]⟩ : ByteArray) = bs [44] from rfl, bs_append, bs_append]
      simp only [bs_size, if_pos (show (acc ++ [44]).length + (Go.Lib.itoa l[i]).length ≤ 9223372036854775807 by rw [List.length_append, List.length_singleton]; omega)]
      have hne : (l.take i).map Go.Lib.itoa ≠ [] := by
        intro hh
        have := congrArg List.length hh
        rw [List.length_map, List.length_take, List.length_nil] at this
        omega
      have e0 : acc ++ [44] ++ Go.Lib.itoa l[i] = Go.Lib.join ((l.take (i + 1)).map Go.Lib.itoa) [44] := by
        rw [hsnoc, join_snoc _ _ _ hne, ha]
      exact ih (i + 1) _ (by omega) e0 (by simp only [List.length_append, List.length_singleton]; omega)
theorem BornText_at (l : List Int) (hl : l.length ≤ 1048576) : Big (fun k => spec_BornText.f k l) (bornOut (born l) l, born l) := by
  unfold spec_BornText.f bornOut
  refine Big.bind (roBorn_at l hl) ?_
  cases h : born l
  · simp only [Bool.false_eq_true, if_false]
    exact Big.some_ _
  · obtain ⟨h1, h2⟩ := born_iff.mp h
    simp only [if_true]
    unfold spec_roText.f
    have e : (⟨#[]⟩ : ByteArray) = bs [] := rfl
    rw [e]
    exact Big.bind (roText_l l h1.2 h2 l.length 0 [] (by omega) rfl (by simp)) (Big.some_ _)
end Go.Proofs.YtknigfnbhlmlgaaDoor.Q
