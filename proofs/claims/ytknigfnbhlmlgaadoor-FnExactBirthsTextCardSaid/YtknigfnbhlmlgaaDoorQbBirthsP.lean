/- The texts of births: the program's and the reference's are alike. Conditions: as typed. -/
import Derived.Test.YtknigfnbhlmlgaaDoorQbBirthsB
import Derived.Test.YtknigfnbhlmlgaaDoorQbDeskD
import Derived.Test.YtknigfnbhlmlgaaDoorQbNumP
import Derived.Test.YtknigfnbhlmlgaaDoorR0
import Derived.Test.YtknigfnbhlmlgaaDoorR1
import Derived.Test.YtknigfnbhlmlgaaDoorR3
import Derived.Test.YtknigfnbhlmlgaaDoorR4
import Derived.Test.YtknigfnbhlmlgaaDoorR5
namespace Go.Proofs.YtknigfnbhlmlgaaDoor.Q
open Go.RowKit Go.Proofs.YtknigfnbhlmlgaaDoor.R Go.Proofs.YtknigfnbhlmlgaaDoorW.PrintWords Go.Proofs.YtknigfnbhlmlgaaDoorW.PrintLast
set_option linter.unusedSimpArgs false

theorem d_ok_iff {c : S58} (h : d_ok c = true) : (0 ≤ c.f0 ∧ c.f0 ≤ 3000) ∧ 1 ≤ c.f1 ∧ c.f1 ≤ 365 := by
  unfold d_ok at h
  rw [Bool.and_eq_true, inR_iff, inR_iff] at h
  exact h
theorem d_good_iff {l : List (S58)} (h : d_good l = true) : (1 ≤ l.length ∧ l.length ≤ 8) ∧ ∀ x ∈ l, d_ok x = true := by
  unfold d_good at h
  rw [Bool.and_eq_true, inR_iff, List.all_eq_true] at h
  exact ⟨by omega, h.2⟩
/-- A date's text, as bytes. -/
def dL (x : S58) : List UInt8 := Go.Lib.itoa x.f0 ++ [46] ++ Go.Lib.itoa x.f1
theorem biText_l (l : List (S58)) (hl : l.length ≤ 8) (hb : ∀ x ∈ l, d_ok x = true) (d : Nat) : ∀ (i : Nat) (acc : List UInt8), i + d = l.length → acc = Go.Lib.join ((l.take i).map dL) [44] → acc.length ≤ 20 * i → Big (fun k => spec_biText.l0 k (bs acc) l (l.length : Int) i) (bs (Go.Lib.join (l.map dL) [44])) := by
  induction d with
  | zero =>
    intro i acc hi ha _
    refine Big.succ ?_
    simp only [spec_biText.l0, if_neg (show ¬ (i : Int) < (l.length : Int) by omega)]
    rw [ha, List.take_of_length_le (show l.length ≤ i by omega)]
    exact Big.some_ _
  | succ d ih =>
    intro i acc hi ha hs
    have hlt : i < l.length := by omega
    have er : rd_T58 l (i : Int) = l[i] := dRd l i hlt
    obtain ⟨h0, h1⟩ := d_ok_iff (hb _ (List.getElem_mem hlt))
    obtain ⟨hn0, hlen0⟩ := num_at (l[i]).f0 (by omega)
    obtain ⟨hn1, hlen1⟩ := num_at (l[i]).f1 (by omega)
    have hsnoc : (l.take (i + 1)).map dL = (l.take i).map dL ++ [dL l[i]] := by
      rw [List.take_succ_eq_append_getElem hlt, List.map_append]
      rfl
    refine Big.succ ?_
    simp only [spec_biText.l0, if_pos (show (i : Int) < (l.length : Int) by omega), if_pos (show 0 ≤ (i : Int) by omega), er, w64n (show i < 9223372036854775807 by omega)]
    rw [show (⟨#[44]⟩ : ByteArray) = bs [44] from rfl, show (⟨#[46]⟩ : ByteArray) = bs [46] from rfl]
    by_cases hi0 : i = 0
    · subst hi0
      simp only [if_neg (show ¬ ((0 : Nat) : Int) > 0 by omega)]
      refine Big.bind hn0 ?_
      simp only [bs_append, bs_size, if_pos (show (Go.Lib.itoa (l[0]).f0).length + 1 ≤ 9223372036854775807 by omega)]
      refine Big.bind hn1 ?_
      simp only [bs_append, bs_size, if_pos (show (Go.Lib.itoa (l[0]).f0 ++ ([46] : List UInt8)).length + (Go.Lib.itoa (l[0]).f1).length ≤ 9223372036854775807 by rw [List.length_append, List.length_singleton]; omega)]
      simp only [if_pos (show acc.length + (Go.Lib.itoa (l[0]).f0 ++ ([46] : List UInt8) ++ Go.Lib.itoa (l[0]).f1).length ≤ 9223372036854775807 by simp only [List.length_append, List.length_singleton]; omega)]
      have e0 : acc ++ dL l[0] = Go.Lib.join ((l.take (0 + 1)).map dL) [44] := by
        rw [hsnoc, ha]
        simp [Go.Lib.join_nil, Go.Lib.join_one]
      exact ih (0 + 1) _ (by omega) e0 (by simp only [List.length_append, List.length_singleton]; omega)
    · simp only [if_pos (show (i : Int) > 0 by omega), bs_size, if_pos (show acc.length + 1 ≤ 9223372036854775807 by omega)]
      refine Big.bind hn0 ?_
      simp only [bs_append, bs_size, if_pos (show (Go.Lib.itoa (l[i]).f0).length + 1 ≤ 9223372036854775807 by omega)]
      refine Big.bind hn1 ?_
      simp only [bs_append, bs_size, if_pos (show (Go.Lib.itoa (l[i]).f0 ++ ([46] : List UInt8)).length + (Go.Lib.itoa (l[i]).f1).length ≤ 9223372036854775807 by rw [List.length_append, List.length_singleton]; omega)]
      simp only [if_pos (show (acc ++ ([44] : List UInt8)).length + (Go.Lib.itoa (l[i]).f0 ++ ([46] : List UInt8) ++ Go.Lib.itoa (l[i]).f1).length ≤ 9223372036854775807 by simp only [List.length_append, List.length_singleton]; omega)]
      have hne : (l.take i).map dL ≠ [] := by
        intro hh
        have := congrArg List.length hh
        rw [List.length_map, List.length_take, List.length_nil] at this
        omega
      have e0 : acc ++ [44] ++ dL l[i] = Go.Lib.join ((l.take (i + 1)).map dL) [44] := by
        rw [hsnoc, join_snoc _ _ _ hne, ha]
      exact ih (i + 1) _ (by omega) e0 (by simp only [List.length_append, List.length_singleton]; omega)
theorem BirthsText_at (l : List (S58)) (hl : l.length ≤ 1048576) : Big (fun k => spec_BirthsText.f k l) (birthsOut (d_good l) l, d_good l) := by
  unfold spec_BirthsText.f birthsOut
  refine Big.bind (d_spec_at l hl) ?_
  cases h : d_good l
  · simp only [Bool.false_eq_true, if_false]
    exact Big.some_ _
  · obtain ⟨h1, h2⟩ := d_good_iff h
    simp only [if_true]
    unfold spec_biText.f
    have e : (⟨#[]⟩ : ByteArray) = bs [] := rfl
    rw [e]
    exact Big.bind (biText_l l h1.2 h2 l.length 0 [] (by omega) rfl (by simp)) (Big.some_ _)
theorem pureBirths (l : List (S60)) (hm : l.length ≤ maxLen) : ∃ k s, laws_szDateS.f l 1048576 = some s ∧ (0 ≤ s → laws_toDateS.f k l = some (l.map cv_d) ∧ spec_BirthsText.f k (l.map cv_d) = some (birthsOut (d_good (l.map cv_d)) (l.map cv_d), d_good (l.map cv_d)) ∧ impl_AreBirthDates.f (l.map cv_d) = some (d_good (l.map cv_d)) ∧ (d_good (l.map cv_d) = true → 1 ≤ (l.map cv_d).length ∧ (l.map cv_d).length ≤ 10 ∧ ∀ x ∈ l.map cv_d, (0 ≤ x.f0 ∧ x.f0 ≤ 10000) ∧ 0 ≤ x.f1 ∧ x.f1 ≤ 10000) ∧ laws_eqDateS.f k (l.map cv_d) (l.map cv_d) = some true) := by
  have hm2 : l.length ≤ 9223372036854775807 := hm
  have hw : wrap64 (1048576 - (l.length : Int)) = 1048576 - (l.length : Int) := w64 (by omega) (by omega)
  by_cases hl : l.length ≤ 1048576
  · have hml : (l.map cv_d).length = l.length := List.length_map ..
    obtain ⟨k1, h1⟩ := d_toS_at l hl
    obtain ⟨k2, h2⟩ := BirthsText_at (l.map cv_d) (by omega)
    obtain ⟨k3, h3⟩ := d_eqS_self (l.map cv_d) (by omega)
    refine ⟨max k1 (max k2 k3), 1048576 - (l.length : Int), ?_, fun _ => ⟨h1 _ (by omega), h2 _ (by omega), d_impl _, fun hb => ?_, h3 _ (by omega)⟩⟩
    · unfold laws_szDateS.f
      rw [hw, if_neg (by omega)]
    · obtain ⟨a, c⟩ := d_good_iff hb
      refine ⟨a.1, by omega, fun x hx => ?_⟩
      obtain ⟨b1, b2⟩ := d_ok_iff (c x hx)
      omega
  · refine ⟨0, -1, ?_, fun h => absurd h (by decide)⟩
    unfold laws_szDateS.f
    rw [hw, if_pos (by omega)]
end Go.Proofs.YtknigfnbhlmlgaaDoor.Q
