/- The reference's own splitting and reading of texts. Conditions: as typed. -/
import Derived.Test.YtknigfnbhlmlgaaDoorQoTxt
import Derived.Test.YtknigfnbhlmlgaaDoorQoVals
import Derived.Test.YtknigfnbhlmlgaaDoorO6
namespace Go.Proofs.YtknigfnbhlmlgaaDoor.Q
open Go.RowKit Go.Proofs.YtknigfnbhlmlgaaDoor.O Go.Proofs.YtknigfnbhlmlgaaDoorW.PrintWords Go.Proofs.YtknigfnbhlmlgaaDoorW.PrintLast
set_option linter.unusedSimpArgs false

theorem l1Split_l (a : ByteArray) (hs : a.size ≤ 1048576) (c : UInt8) (d : Nat) : ∀ (i f : Nat) (out : List ByteArray), i + d = a.size → f ≤ i → c ∉ (a.data.toList.drop f).take (i - f) → out.length ≤ i → Big (fun k => spec_l1Split.l0 k a (c.toNat : Int) out f i) (out ++ (sp c (a.data.toList.drop f)).map bs) := by
  have hlen : a.data.toList.length = a.size := (Go.Lib.size_eq a).symm
  induction d with
  | zero =>
    intro i f out hi hf hc ho
    refine Big.succ ?_
    unfold spec_l1Split.l0
    refine Big.neg (by omega) ?_
    refine Big.pos (by omega) ?_
    refine Big.pos (by omega) ?_
    refine Big.pos (by omega) ?_
    rw [List.take_of_length_le (by rw [List.length_drop]; omega)] at hc
    have e : a.extract ((f : Int).toNat) a.size = bs (a.data.toList.drop f) := by
      rw [Int.toNat_natCast, ← Go.Lib.extract_to_end, data_bs]
    rw [sp_miss hc, e]
    exact Big.some_ _
  | succ d ih =>
    intro i f out hi hf hc ho
    have hlt : i < a.data.toList.length := by omega
    have hdrop : a.data.toList.drop f = (a.data.toList.drop f).take (i - f) ++ a.data.toList[i] :: a.data.toList.drop (i + 1) := by
      have h1 := (List.take_append_drop (i - f) (a.data.toList.drop f)).symm
      rw [List.drop_drop, show f + (i - f) = i by omega, List.drop_eq_getElem_cons hlt] at h1
      exact h1
    refine Big.succ ?_
    unfold spec_l1Split.l0
    rw [bt_list a i hlt, w64n (by omega)]
    refine Big.pos (by omega) ?_
    refine Big.pos (by omega) ?_
    by_cases hb : a.data.toList[i] = c
    · refine Big.pos (by rw [hb]) ?_
      refine Big.pos (by omega) ?_
      refine Big.pos (by omega) ?_
      refine Big.pos (by omega) ?_
      refine Big.pos (by omega) ?_
      have e : a.extract ((f : Int).toNat) ((i : Int).toNat) = bs ((a.data.toList.drop f).take (i - f)) := by
        rw [Int.toNat_natCast, Int.toNat_natCast, ← Go.Lib.extract_data, data_bs]
      have e2 : out ++ (sp c (a.data.toList.drop f)).map bs = (out ++ [bs ((a.data.toList.drop f).take (i - f))]) ++ (sp c (a.data.toList.drop (i + 1))).map bs := by
        conv => lhs; rw [hdrop, hb, sp_hit _ hc]
        simp
      rw [e, e2]
      exact ih (i + 1) (i + 1) _ (by omega) (Nat.le_refl _) (by simp) (by rw [List.length_append, List.length_singleton]; omega)
    · refine Big.neg (fun h => hb (UInt8.toNat_inj.mp (by omega))) ?_
      refine ih (i + 1) f out (by omega) (by omega) ?_ (by omega)
      rw [show i + 1 - f = (i - f) + 1 by omega, List.take_succ_eq_append_getElem (by rw [List.length_drop]; omega), List.mem_append, List.mem_singleton]
      rintro (h | h)
      · exact hc h
      · apply hb
        rw [h, List.getElem_drop]
        congr 1
        omega
theorem l1Split_at (a : ByteArray) (hs : a.size ≤ 1048576) (c : UInt8) : Big (fun k => spec_l1Split.f k a (c.toNat : Int)) ((sp c a.data.toList).map bs) :=
  l1Split_l a hs c a.size 0 0 [] (by omega) (Nat.le_refl _) (by simp) (by simp)
theorem l1Read_l (a : ByteArray) (hs : a.size ≤ 6) (t : List UInt8) : ∀ i acc : Nat, a.data.toList.drop i = t → i ≤ a.size → acc < 10 ^ i → (∀ b ∈ t, 48 ≤ b.toNat ∧ b.toNat ≤ 57) → Big (fun k => spec_l1Read.l0 k a (acc : Int) (i : Int)) (dv acc t : Int) := by
  have hlen : a.data.toList.length = a.size := (Go.Lib.size_eq a).symm
  induction t with
  | nil =>
    intro i acc hd hi ha _
    rw [List.drop_eq_nil_iff] at hd
    refine Big.succ ?_
    unfold spec_l1Read.l0
    refine Big.neg (by omega) ?_
    exact Big.some_ _
  | cons b t ih =>
    intro i acc hd hi ha hb
    have hlt : i < a.data.toList.length := by
      rcases Nat.lt_or_ge i a.data.toList.length with h | h
      · exact h
      · rw [List.drop_eq_nil_of_le h] at hd
        cases hd
    rw [List.drop_eq_getElem_cons hlt] at hd
    injection hd with h1 h2
    have hbb := hb b List.mem_cons_self
    have hp : 10 ^ i ≤ 10 ^ 6 := Nat.pow_le_pow_right (by omega) (by omega)
    refine Big.succ ?_
    unfold spec_l1Read.l0
    rw [bt_list a i hlt, h1, w64n (by omega)]
    refine Big.pos (by omega) ?_
    refine Big.pos (by omega) ?_
    refine Big.neg (by omega) ?_
    refine Big.neg (by omega) ?_
    have e : wrap64 (wrap64 (10 * (acc : Int)) + ((b.toNat : Int) - 48) % 256) = ((acc * 10 + (b.toNat - 48) : Nat) : Int) := by
      rw [w64 (i := 10 * (acc : Int)) (by omega) (by omega), w64 (by omega) (by omega)]
      omega
    rw [e]
    exact ih (i + 1) _ h2 (by omega) (by rw [Nat.pow_succ]; omega) (fun b h => hb b (List.mem_cons_of_mem _ h))
theorem l1Read_end (a : ByteArray) (hs : a.size ≤ 6) (d : Nat) : ∀ (i : Nat) (acc : Int), i + d = a.size → ∃ v, Big (fun k => spec_l1Read.l0 k a acc (i : Int)) v := by
  induction d with
  | zero =>
    intro i acc hi
    refine ⟨acc, Big.succ ?_⟩
    unfold spec_l1Read.l0
    exact Big.neg (by omega) (Big.some_ _)
  | succ d ih =>
    intro i acc hi
    by_cases h1 : bt a (i : Int) < 48
    · refine ⟨-1, Big.succ ?_⟩
      unfold spec_l1Read.l0
      exact Big.pos (by omega) (Big.pos (by omega) (Big.pos h1 (Big.some_ _)))
    · by_cases h2 : bt a (i : Int) > 57
      · refine ⟨-1, Big.succ ?_⟩
        unfold spec_l1Read.l0
        exact Big.pos (by omega) (Big.pos (by omega) (Big.neg h1 (Big.pos h2 (Big.some_ _))))
      · obtain ⟨v, hv⟩ := ih (i + 1) (wrap64 (wrap64 (10 * acc) + (bt a (i : Int) - 48) % 256)) (by omega)
        refine ⟨v, Big.succ ?_⟩
        unfold spec_l1Read.l0
        rw [w64n (by omega)]
        exact Big.pos (by omega) (Big.pos (by omega) (Big.neg h1 (Big.neg h2 hv)))
theorem l1Read_j (a : ByteArray) (hs : a.size ≤ 6) (b : Bool) : ∃ v, Big (fun k => spec_l1Read.j0 k a b) v := by
  cases b
  · obtain ⟨v, hv⟩ := l1Read_end a hs a.size 0 0 (by omega)
    refine ⟨v, Big.succ ?_⟩
    unfold spec_l1Read.j0
    exact Big.neg (by decide) hv
  · refine ⟨-1, Big.succ ?_⟩
    unfold spec_l1Read.j0
    exact Big.pos rfl (Big.some_ _)
theorem l1Read_tot (a : ByteArray) : ∃ v, Big (fun k => spec_l1Read.f k a) v := by
  unfold spec_l1Read.f
  simp only [v_l1In, Option.bind_some]
  cases h : inR (a.size : Int) 1 6
  · refine ⟨-1, Big.neg (by decide) (Big.succ ?_)⟩
    unfold spec_l1Read.j0
    exact Big.pos rfl (Big.some_ _)
  · rw [inR_iff] at h
    by_cases h0 : bt a 0 = 48
    · obtain ⟨v, hv⟩ := l1Read_j a (by omega) (decide ((a.size : Int) > 1))
      exact ⟨v, Big.pos rfl (Big.pos (by omega) (Big.pos h0 hv))⟩
    · obtain ⟨v, hv⟩ := l1Read_j a (by omega) false
      exact ⟨v, Big.pos rfl (Big.pos (by omega) (Big.neg h0 hv))⟩
theorem l1Read_at (x : Int) (h : 0 ≤ x ∧ x ≤ 9999) : Big (fun k => spec_l1Read.f k (bs (Go.Lib.itoa x))) x := by
  have hl4 := (num_at x h).2
  obtain ⟨n, rfl⟩ : ∃ n : Nat, x = (n : Int) := ⟨x.toNat, by omega⟩
  have hd : Go.Lib.itoa (n : Int) = Go.Lib.decDigits n := by
    unfold Go.Lib.itoa
    rw [if_neg (by omega), Int.toNat_natCast]
  rw [hd] at hl4 ⊢
  obtain ⟨b, l, e, hz⟩ := dd_head n
  have hpos : 1 ≤ (Go.Lib.decDigits n).length := by
    rw [e, List.length_cons]
    omega
  have hsz : (bs (Go.Lib.decDigits n)).size = (Go.Lib.decDigits n).length := bs_size _
  have hL := l1Read_l (bs (Go.Lib.decDigits n)) (by omega) (Go.Lib.decDigits n) 0 0 (by rw [bs_data]; rfl) (by omega) (by omega) (dd_all n)
  rw [dd_val] at hL
  have hj : Big (fun k => spec_l1Read.j0 k (bs (Go.Lib.decDigits n)) false) (n : Int) := by
    refine Big.succ ?_
    unfold spec_l1Read.j0
    exact Big.neg (by decide) hL
  unfold spec_l1Read.f
  simp only [v_l1In, Option.bind_some, inR_iff.mpr (show (1 : Int) ≤ ((bs (Go.Lib.decDigits n)).size : Int) ∧ ((bs (Go.Lib.decDigits n)).size : Int) ≤ 6 by omega)]
  refine Big.pos trivial (Big.pos (by omega) ?_)
  have hb0 : bt (bs (Go.Lib.decDigits n)) 0 = (b.toNat : Int) := by
    have := bt_list (bs (Go.Lib.decDigits n)) 0 (by rw [bs_data]; omega)
    simp only [bs_data, e, List.getElem_cons_zero] at this
    rw [e]
    exact this
  by_cases hb : b = 48
  · have h0 := hz hb
    subst h0
    refine Big.pos (by rw [hb0, hb]; rfl) ?_
    have e1 : decide (((bs (Go.Lib.decDigits 0)).size : Int) > 1) = false := decide_eq_false (by rw [bs_size, dd_zero, List.length_singleton]; omega)
    rw [e1]
    exact hj
  · refine Big.neg (fun h => hb (UInt8.toNat_inj.mp ?_)) hj
    have : (48 : UInt8).toNat = 48 := rfl
    omega
end Go.Proofs.YtknigfnbhlmlgaaDoor.Q
