/- Births, read out of a text: the program and the reference answer alike. Conditions: as typed. -/
import Derived.Test.YtknigfnbhlmlgaaDoorQpReadQ
import Derived.Test.YtknigfnbhlmlgaaDoorQpWordQ
import Derived.Test.YtknigfnbhlmlgaaDoorQpRoTxt
import Derived.Test.YtknigfnbhlmlgaaDoorP1
import Derived.Test.YtknigfnbhlmlgaaDoorP2
import Derived.Test.YtknigfnbhlmlgaaDoorP3
import Derived.Test.YtknigfnbhlmlgaaDoorP4
import Derived.Test.YtknigfnbhlmlgaaDoorP5
namespace Go.Proofs.YtknigfnbhlmlgaaDoor.Q
open Go.RowKit Go.Proofs.YtknigfnbhlmlgaaDoor.P Go.Proofs.YtknigfnbhlmlgaaDoorW.PrintWords Go.Proofs.YtknigfnbhlmlgaaDoorW.PrintLast
set_option linter.unusedSimpArgs false

/-- What stands behind the reference's loop. -/
def bornEnd (a : ByteArray) (V : List Int) (k : Nat) : Option (List Int × Bool) := (spec_roBorn.f k V).bind fun t132 => (if t132 = true then ((spec_roText.f k V).bind fun t133 => (if t133.toList = a.toList then (some (V, true)) else (some (([] : List Int), false)))) else (some (([] : List Int), false)))
theorem parse_l (a : ByteArray) (g : ByteArray → Int) (hg : ∀ w, Big (fun k => spec_l1Read.f k w) (g w)) (W : List ByteArray) (hl : W.length ≤ 2000000) (R : List Int × Bool) (hE : Big (bornEnd a (W.map g)) R) (d : Nat) : ∀ i : Nat, i + d = W.length → Big (fun k => spec_ParseBorn.l0 k a ((W.take i).map g) W (W.length : Int) i) R := by
  induction d with
  | zero =>
    intro i hi
    rw [List.take_of_length_le (show W.length ≤ i by omega)]
    refine Big.succ ?_
    unfold spec_ParseBorn.l0
    exact Big.neg (by omega) hE
  | succ d ih =>
    intro i hi
    have hlt : i < W.length := by omega
    have er : rdOf ByteArray.empty W (i : Int) = W[i] := by
      unfold rdOf
      rw [Int.toNat_natCast, List.getD_eq_getElem?_getD, List.getElem?_eq_getElem hlt, Option.getD_some]
    refine Big.succ ?_
    unfold spec_ParseBorn.l0
    rw [er, w64n (by omega)]
    refine Big.pos (by omega) ?_
    refine Big.pos (by omega) ?_
    refine Big.pos (by omega) ?_
    refine Big.bind (hg _) ?_
    refine Big.pos (by rw [List.length_map, List.length_take]; omega) ?_
    have e : (W.take i).map g ++ [g W[i]] = (W.take (i + 1)).map g := by
      rw [List.take_succ_eq_append_getElem hlt, List.map_append]
      rfl
    rw [e]
    exact ih (i + 1) (by omega)
theorem bornEnd_no (a : ByteArray) (V : List Int) (hl : V.length ≤ 1048576) (h : ¬ (born V = true ∧ a.data.toList = Go.Lib.join (V.map Go.Lib.itoa) [44])) : Big (bornEnd a V) ([], false) := by
  unfold bornEnd
  refine Big.bind (roBorn_at V hl) ?_
  cases hb : born V
  · exact Big.neg (by decide) (Big.some_ _)
  · refine Big.pos rfl ?_
    refine Big.bind (roText_at V hb) ?_
    refine Big.neg (fun e => h ⟨hb, ?_⟩) (Big.some_ _)
    rw [Go.Lib.toList_data, Go.Lib.toList_data, bs_data] at e
    exact e.symm
theorem bornEnd_yes (a : ByteArray) (V : List Int) (hb : born V = true) (h : a.data.toList = Go.Lib.join (V.map Go.Lib.itoa) [44]) : Big (bornEnd a V) (V, true) := by
  have hl := (born_iff.mp hb).1
  unfold bornEnd
  refine Big.bind (roBorn_at V (by omega)) ?_
  rw [hb]
  refine Big.pos rfl ?_
  refine Big.bind (roText_at V hb) ?_
  refine Big.pos ?_ (Big.some_ _)
  rw [Go.Lib.toList_data, Go.Lib.toList_data, bs_data, h]
theorem ParseBorn_both (a : ByteArray) (hs : a.size ≤ 1048576) : ∃ R : List Int × Bool, R.1.length ≤ 1048576 ∧ Big (fun k => spec_ParseBorn.f k a) R ∧ Big (fun k => impl_ParseBorn.f k a) R := by
  have hlen : a.data.toList.length = a.size := (Go.Lib.size_eq a).symm
  have hsl := sp_len 44 a.data.toList
  obtain ⟨g, hg⟩ := Classical.axiomOfChoice l1Read_tot
  have hN := readNumbers_at a hs 44
  by_cases h : ∃ V : List Int, born V = true ∧ a.data.toList = Go.Lib.join (V.map Go.Lib.itoa) [44]
  · obtain ⟨V, hb, hj⟩ := h
    obtain ⟨⟨hV1, hV10⟩, hV⟩ := born_iff.mp hb
    have hws : sp 44 a.data.toList = V.map Go.Lib.itoa := by
      rw [hj]
      refine sp_join 44 _ (fun e => ?_) (fun w hw => ?_)
      · have := congrArg List.length e
        rw [List.length_map, List.length_nil] at this
        omega
      · obtain ⟨x, hx, rfl⟩ := List.mem_map.1 hw
        exact no_comma x (hV x hx).1 44 (.inl (by decide))
    have hsz : a.size ≤ 50 := by
      have h1 := join_len [44] 4 (V.map Go.Lib.itoa) (fun w hw => by
        obtain ⟨x, hx, rfl⟩ := List.mem_map.1 hw
        exact (num_at x (by have := hV x hx; omega)).2)
      rw [← hj, List.length_map, List.length_singleton, hlen] at h1
      omega
    have hgV : ((V.map Go.Lib.itoa).map bs).map g = V := by
      have : ∀ V : List Int, (∀ x ∈ V, 0 ≤ x ∧ x ≤ 2900) → ((V.map Go.Lib.itoa).map bs).map g = V := by
        intro V
        induction V with
        | nil => intro _; rfl
        | cons x V ih =>
          intro hx
          have h1 := hx x List.mem_cons_self
          have h2 := (hg (bs (Go.Lib.itoa x))).uniq (l1Read_at x (by omega))
          rw [List.map_cons, List.map_cons, List.map_cons, h2, ih fun y hy => hx y (List.mem_cons_of_mem _ hy)]
      exact this V hV
    refine ⟨(V, true), by show V.length ≤ 1048576; omega, ?_, ?_⟩
    · unfold spec_ParseBorn.f
      refine Big.neg (by omega) ?_
      refine Big.bind (l1Split_at a hs 44) ?_
      rw [hws]
      exact parse_l a g hg _ (by simp only [List.length_map]; omega) _ (by rw [hgV]; exact bornEnd_yes a V hb hj) _ 0 (Nat.zero_add _)
    · unfold impl_ParseBorn.f
      rw [hws, nums_itoa V (fun x hx => by have := hV x hx; omega)] at hN
      refine Big.bind hN ?_
      refine Big.pos rfl ?_
      unfold impl_bornOr.f
      rw [v_AreBirths, hb, Option.bind_some, if_pos rfl, Option.bind_some]
      exact Big.some_ _
  · refine ⟨([], false), by simp, ?_, ?_⟩
    · unfold spec_ParseBorn.f
      by_cases h5 : (a.size : Int) > 50
      · exact Big.pos h5 (Big.some_ _)
      · refine Big.neg h5 ?_
        refine Big.bind (l1Split_at a hs 44) ?_
        exact parse_l a g hg _ (by simp only [List.length_map]; omega) _ (bornEnd_no a _ (by simp only [List.length_map]; omega) (fun h1 => h ⟨_, h1⟩)) _ 0 (Nat.zero_add _)
    · unfold impl_ParseBorn.f
      refine Big.bind hN ?_
      unfold numsOut
      by_cases hA : ((sp 44 a.data.toList).map bs).all (fun w => (readWord w).2) = true
      · rw [if_pos hA]
        refine Big.pos rfl ?_
        have hn := nums_of _ hA
        have hj := join_sp 44 _ a.data.toList (Nat.le_refl _)
        rw [hn] at hj
        have hb : born (((sp 44 a.data.toList).map bs).map fun w => (readWord w).1) = false := by
          rw [← Bool.not_eq_true]
          exact fun hb => h ⟨_, hb, hj.symm⟩
        unfold impl_bornOr.f
        rw [v_AreBirths, hb, Option.bind_some, if_neg (by decide), Option.bind_some]
        exact Big.some_ _
      · rw [if_neg hA]
        exact Big.neg (by decide) (Big.some_ _)
end Go.Proofs.YtknigfnbhlmlgaaDoor.Q
