/- The program's own splitting and reading of texts. Conditions: as typed. -/
import Derived.Test.YtknigfnbhlmlgaaDoorQoTxt
import Derived.Test.YtknigfnbhlmlgaaDoorO10
import Derived.Test.YtknigfnbhlmlgaaDoorO11
namespace Go.Proofs.YtknigfnbhlmlgaaDoor.Q
open Go.RowKit Go.Proofs.YtknigfnbhlmlgaaDoor.O Go.Proofs.YtknigfnbhlmlgaaDoorW.PrintWords Go.Proofs.YtknigfnbhlmlgaaDoorW.PrintLast
set_option linter.unusedSimpArgs false

theorem Split_at (s : ByteArray) (c : UInt8) (hs : s.size < 4294967281) : strings_Split.f s (bs [c]) = some ((sp c s.data.toList).map bs) := by
  unfold strings_Split.f
  rw [if_pos hs, if_pos (by rw [bs_size, List.length_singleton]; omega), splitB_sp]
theorem word_at (x : Int) (h : 0 ≤ x ∧ x ≤ 999999) : readWord (bs (Go.Lib.itoa x)) = (x, true) := by
  unfold readWord
  rw [bs_data, atoi_itoa x h]
  show (x, _) = _
  rw [show (⟨(Go.Lib.itoa x).toArray⟩ : ByteArray) = bs (Go.Lib.itoa x) from rfl, beq_self_eq_true]
theorem word_of (w : ByteArray) (h : (readWord w).2 = true) : w.data.toList = Go.Lib.itoa (readWord w).1 := by
  unfold readWord at h ⊢
  cases hA : Go.Lib.atoiAll w.data.toList with
  | ok v =>
    rw [hA] at h
    have h1 : ((⟨(Go.Lib.itoa v).toArray⟩ : ByteArray).toList == w.toList) = true := h
    rw [beq_iff_eq, Go.Lib.toList_data, Go.Lib.toList_data] at h1
    show w.data.toList = Go.Lib.itoa v
    rw [← h1]
  | range => rw [hA] at h; cases h
  | _ => rw [hA] at h; cases h
/-- What readNumbers answers. -/
def numsOut (W : List ByteArray) : List Int × Bool := if W.all (fun w => (readWord w).2) = true then (W.map (fun w => (readWord w).1), true) else ([], false)
theorem readNumbers_l (W : List ByteArray) (hw : ∀ w ∈ W, w.size ≤ 281474976710656) (hl : W.length ≤ 2000000) (d : Nat) : ∀ i : Nat, i + d = W.length → (W.take i).all (fun w => (readWord w).2) = true → Big (fun k => impl_readNumbers.l0 k ((W.take i).map fun w => (readWord w).1) W (W.length : Int) i) (numsOut W) := by
  induction d with
  | zero =>
    intro i hi hb
    rw [List.take_of_length_le (show W.length ≤ i by omega)] at hb ⊢
    refine Big.succ ?_
    unfold impl_readNumbers.l0 numsOut
    rw [if_pos hb]
    exact Big.neg (by omega) (Big.some_ _)
  | succ d ih =>
    intro i hi hb
    have hlt : i < W.length := by omega
    have er : rdOf ByteArray.empty W (i : Int) = W[i] := by
      unfold rdOf
      rw [Int.toNat_natCast, List.getD_eq_getElem?_getD, List.getElem?_eq_getElem hlt, Option.getD_some]
    have hall : (W.take (i + 1)).all (fun w => (readWord w).2) = (readWord W[i]).2 := by
      rw [List.take_succ_eq_append_getElem hlt, List.all_append, hb, Bool.true_and, List.all_cons, List.all_nil, Bool.and_true]
    refine Big.succ ?_
    unfold impl_readNumbers.l0 impl_readNumber.f
    rw [er, w64n (by omega), if_pos (hw _ (List.getElem_mem hlt))]
    refine Big.pos (by omega) ?_
    refine Big.pos (by omega) ?_
    refine Big.pos (by omega) ?_
    refine Big.bind (Big.some_ _) ?_
    cases hr : (readWord W[i]).2
    · refine Big.neg (by decide) ?_
      have : ¬ W.all (fun w => (readWord w).2) = true := by
        intro h
        rw [List.all_eq_true] at h
        have := h _ (List.getElem_mem hlt)
        rw [hr] at this
        cases this
      unfold numsOut
      rw [if_neg this]
      exact Big.some_ _
    · refine Big.pos rfl ?_
      refine Big.pos (by rw [List.length_map, List.length_take]; omega) ?_
      have e : (W.take i).map (fun w => (readWord w).1) ++ [(readWord W[i]).1] = (W.take (i + 1)).map fun w => (readWord w).1 := by
        rw [List.take_succ_eq_append_getElem hlt, List.map_append]
        rfl
      rw [e]
      exact ih (i + 1) (by omega) (by rw [hall, hr])
theorem readNumbers_at (s : ByteArray) (hs : s.size ≤ 1048576) (c : UInt8) : Big (fun k => impl_readNumbers.f k s (bs [c])) (numsOut ((sp c s.data.toList).map bs)) := by
  have hlen : s.data.toList.length = s.size := (Go.Lib.size_eq s).symm
  have hl := sp_len c s.data.toList
  unfold impl_readNumbers.f
  rw [Split_at s c (by omega)]
  refine Big.bind (Big.some_ _) ?_
  refine readNumbers_l ((sp c s.data.toList).map bs) (fun w hw => ?_) (by rw [List.length_map]; omega) _ 0 (Nat.zero_add _) rfl
  obtain ⟨y, hy, rfl⟩ := List.mem_map.1 hw
  have := sp_word c _ y hy
  rw [bs_size]
  omega
/-- All words are numerals: then they are those of their numbers. -/
theorem nums_of (ws : List (List UInt8)) (h : (ws.map bs).all (fun w => (readWord w).2) = true) : ws = ((ws.map bs).map fun w => (readWord w).1).map Go.Lib.itoa := by
  induction ws with
  | nil => rfl
  | cons w ws ih =>
    rw [List.map_cons, List.all_cons, Bool.and_eq_true] at h
    have h1 := word_of (bs w) h.1
    rw [bs_data] at h1
    rw [List.map_cons, List.map_cons, List.map_cons, ← ih h.2, ← h1]
theorem nums_itoa (vs : List Int) (h : ∀ x ∈ vs, 0 ≤ x ∧ x ≤ 999999) : numsOut ((vs.map Go.Lib.itoa).map bs) = (vs, true) := by
  have e : ∀ vs : List Int, (∀ x ∈ vs, 0 ≤ x ∧ x ≤ 999999) → ((vs.map Go.Lib.itoa).map bs).all (fun w => (readWord w).2) = true ∧ ((vs.map Go.Lib.itoa).map bs).map (fun w => (readWord w).1) = vs := by
    intro vs
    induction vs with
    | nil => intro _; exact ⟨rfl, rfl⟩
    | cons v vs ih =>
      intro hv
      obtain ⟨h1, h2⟩ := ih fun x hx => hv x (List.mem_cons_of_mem _ hx)
      have h3 := word_at v (hv v List.mem_cons_self)
      exact ⟨by rw [List.map_cons, List.map_cons, List.all_cons, h3, h1]; rfl, by rw [List.map_cons, List.map_cons, List.map_cons, h3, h2]⟩
  unfold numsOut
  rw [if_pos (e vs h).1, (e vs h).2]
end Go.Proofs.YtknigfnbhlmlgaaDoor.Q
