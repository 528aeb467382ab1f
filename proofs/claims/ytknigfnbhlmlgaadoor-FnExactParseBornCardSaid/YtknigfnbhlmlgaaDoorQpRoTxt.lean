/- The reference's text of births. Conditions: as typed. -/
import Derived.Test.YtknigfnbhlmlgaaDoorQpBorn
import Derived.Test.YtknigfnbhlmlgaaDoorQpNumQ
import Derived.Test.YtknigfnbhlmlgaaDoorP2
namespace Go.Proofs.YtknigfnbhlmlgaaDoor.Q
open Go.RowKit Go.Proofs.YtknigfnbhlmlgaaDoor.P Go.Proofs.YtknigfnbhlmlgaaDoorW.PrintWords Go.Proofs.YtknigfnbhlmlgaaDoorW.PrintLast
set_option linter.unusedSimpArgs false

theorem roText_l (l : List Int) (hl : l.length ≤ 10) (hb : ∀ x ∈ l, 0 ≤ x ∧ x ≤ 2900) (d : Nat) : ∀ (i : Nat) (acc : List UInt8), i + d = l.length → acc = Go.Lib.join ((l.take i).map Go.Lib.itoa) [44] → acc.length ≤ 5 * i → Big (fun k => spec_roText.l0 k (bs acc) l (l.length : Int) i) (bs (Go.Lib.join (l.map Go.Lib.itoa) [44])) := by
  induction d with
  | zero =>
    intro i acc hi ha _
    refine Big.succ ?_
    simp only [spec_roText.l0, if_neg (show ¬ (i : Int) < (l.length : Int) by omega)]
    rw [ha, List.take_of_length_le (show l.length ≤ i by omega)]
    exact Big.some_ _
  | succ d ih =>
    intro i acc hi ha hs
    have hlt : i < l.length := by omega
    have er : rd l (i : Int) = l[i] := by
      unfold rd
      rw [Int.toNat_natCast, List.getD_eq_getElem?_getD, List.getElem?_eq_getElem hlt, Option.getD_some]
    obtain ⟨hn, hlen⟩ := num_at l[i] (by have := hb _ (List.getElem_mem hlt); omega)
    have hsnoc : (l.take (i + 1)).map Go.Lib.itoa = (l.take i).map Go.Lib.itoa ++ [Go.Lib.itoa l[i]] := by
      rw [List.take_succ_eq_append_getElem hlt, List.map_append]
      rfl
    refine Big.succ ?_
    simp only [spec_roText.l0, if_pos (show (i : Int) < (l.length : Int) by omega), if_pos (show 0 ≤ (i : Int) by omega), er, w64n (show i < 9223372036854775807 by omega)]
    by_cases h0 : i = 0
    · subst h0
      simp only [if_neg (show ¬ ((0 : Nat) : Int) > 0 by omega)]
      refine Big.bind hn ?_
      rw [bs_append]
      simp only [bs_size, if_pos (show acc.length + (Go.Lib.itoa l[0]).length ≤ 9223372036854775807 by omega)]
      have e0 : acc ++ Go.Lib.itoa l[0] = Go.Lib.join ((l.take (0 + 1)).map Go.Lib.itoa) [44] := by
        rw [hsnoc, ha]
        simp [Go.Lib.join_nil, Go.Lib.join_one]
      exact ih (0 + 1) _ (by omega) e0 (by rw [List.length_append]; omega)
    · simp only [if_pos (show (i : Int) > 0 by omega), bs_size, if_pos (show acc.length + 1 ≤ 9223372036854775807 by omega)]
      refine Big.bind hn ?_
      rw [show (⟨#[44]⟩ : ByteArray) = bs [44] from rfl, bs_append, bs_append]
      simp only [bs_size, if_pos (show (acc ++ [44]).length + (Go.Lib.itoa l[i]).length ≤ 9223372036854775807 by rw [List.length_append, List.length_singleton]; omega)]
      have hne : (l.take i).map Go.Lib.itoa ≠ [] := by
        intro hh
        have := congrArg List.length hh
        rw [List.length_map, List.length_take, List.length_nil] at this
        omega
      have e0 : acc ++ [44] ++ Go.Lib.itoa l[i] = Go.Lib.join ((l.take (i + 1)).map Go.Lib.itoa) [44] := by
        rw [hsnoc, join_snoc _ _ _ hne, ha]
      exact ih (i + 1) _ (by omega) e0 (by simp only [List.length_append, List.length_singleton]; omega)
theorem roText_at (l : List Int) (h : born l = true) : Big (fun k => spec_roText.f k l) (bs (Go.Lib.join (l.map Go.Lib.itoa) [44])) := by
  obtain ⟨h1, h2⟩ := born_iff.mp h
  unfold spec_roText.f
  rw [show (⟨#[]⟩ : ByteArray) = bs [] from rfl]
  exact roText_l l h1.2 h2 l.length 0 [] (by omega) rfl (by simp)
end Go.Proofs.YtknigfnbhlmlgaaDoor.Q
