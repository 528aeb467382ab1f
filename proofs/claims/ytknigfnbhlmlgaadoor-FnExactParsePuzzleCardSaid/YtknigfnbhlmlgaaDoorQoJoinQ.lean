/- The program's joined numbers: what it answers. Conditions: as typed. -/
import Derived.Test.YtknigfnbhlmlgaaDoorQoTxt
import Derived.Test.YtknigfnbhlmlgaaDoorO10
namespace Go.Proofs.YtknigfnbhlmlgaaDoor.Q
open Go.RowKit Go.Proofs.YtknigfnbhlmlgaaDoor.O Go.Proofs.YtknigfnbhlmlgaaDoorW.PrintWords Go.Proofs.YtknigfnbhlmlgaaDoorW.PrintLast
set_option linter.unusedSimpArgs false

theorem Join_at (xs : List (List UInt8)) (sep : List UInt8) (hn : xs.length ≤ 140737488355328) (hj : (Go.Lib.join xs sep).length ≤ 140737488355328) : strings_Join.f (xs.map bs) (bs sep) = some (bs (Go.Lib.join xs sep)) := by
  have e : (xs.map bs).map (fun b => b.data.toList) = xs := by
    rw [List.map_map]
    exact List.map_id'' bs_data xs
  unfold strings_Join.f
  rw [List.length_map, if_pos hn, e, bs_data, if_pos hj]
  rfl
theorem Itoa_at (x : Int) (h : -9223372036854775808 ≤ x ∧ x ≤ 9223372036854775807) : strconv_Itoa_63.f x = some (bs (Go.Lib.itoa x)) := by
  unfold strconv_Itoa_63.f
  rw [if_pos h.1, if_pos h.2]
  rfl
theorem joined_l (l : List Int) (hw : ∀ x ∈ l, -9223372036854775808 ≤ x ∧ x ≤ 9223372036854775807) (hl : l.length ≤ 1000000) (sep : List UInt8) (hs : sep.length ≤ 1000) (d : Nat) : ∀ i : Nat, i + d = l.length → Big (fun k => impl_joined.l0 k (bs sep) (((l.take i).map Go.Lib.itoa).map bs) l (l.length : Int) i) (bs (Go.Lib.join (l.map Go.Lib.itoa) sep)) := by
  induction d with
  | zero =>
    intro i hi
    refine Big.succ ?_
    unfold impl_joined.l0
    refine Big.neg (by omega) ?_
    rw [List.take_of_length_le (show l.length ≤ i by omega)]
    have hj := join_len sep 21 (l.map Go.Lib.itoa) (fun x hx => by
      obtain ⟨y, hy, rfl⟩ := List.mem_map.1 hx
      exact Go.Lib.itoa_length_le y (hw y hy).1 (hw y hy).2)
    rw [List.length_map] at hj
    have hj2 : l.length * (21 + sep.length) ≤ 1000000 * 1021 := Nat.mul_le_mul hl (by omega)
    rw [Join_at _ sep (by rw [List.length_map]; omega) (by omega)]
    exact Big.some_ _
  | succ d ih =>
    intro i hi
    have hlt : i < l.length := by omega
    have hx : rd l (i : Int) = l[i] := by rw [rd_nat, List.getD_eq_getElem?_getD, List.getElem?_eq_getElem hlt]; rfl
    refine Big.succ ?_
    unfold impl_joined.l0
    refine Big.pos (by omega) ?_
    refine Big.pos (by omega) ?_
    refine Big.pos (by omega) ?_
    rw [hx, Itoa_at _ (hw _ (List.getElem_mem hlt)), w64n (by omega)]
    refine Big.pos (by rw [List.length_map, List.length_map, List.length_take]; omega) ?_
    have e : ((l.take i).map Go.Lib.itoa).map bs ++ [bs (Go.Lib.itoa l[i])] = ((l.take (i + 1)).map Go.Lib.itoa).map bs := by
      rw [List.take_succ_eq_append_getElem hlt, List.map_append, List.map_append]
      rfl
    rw [e]
    exact ih (i + 1) (by omega)
theorem joined_at (l : List Int) (hw : ∀ x ∈ l, -9223372036854775808 ≤ x ∧ x ≤ 9223372036854775807) (hl : l.length ≤ 1000000) (sep : List UInt8) (hs : sep.length ≤ 1000) : Big (fun k => impl_joined.f k l (bs sep)) (bs (Go.Lib.join (l.map Go.Lib.itoa) sep)) :=
  joined_l l hw hl sep hs l.length 0 (by omega)
end Go.Proofs.YtknigfnbhlmlgaaDoor.Q
