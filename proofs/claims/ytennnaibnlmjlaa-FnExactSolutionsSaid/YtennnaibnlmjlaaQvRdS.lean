/- Rows of rows, read at an index. -/
import Derived.Test.YtennnaibnlmjlaaQvBig
import Derived.Test.YtennnaibnlmjlaaV0
namespace Go.Proofs.Ytennnaibnlmjlaa.Q
open Go.RowKit Go.Proofs.Ytennnaibnlmjlaa.V Go.Proofs.YtennnaibnlmjlaaW.PrintWords Go.Proofs.YtennnaibnlmjlaaW.PrintLast

theorem rdS_nat (S : List (List Int)) (i : Nat) (h : i < S.length) : rd_L4 S (i : Int) = S[i] := by
  unfold rd_L4
  rw [Int.toNat_natCast, List.getD_eq_getElem?_getD, List.getElem?_eq_getElem h, Option.getD_some]
theorem rdS_mem (S : List (List Int)) (i : Int) (h0 : 0 ≤ i) (h1 : i < (S.length : Int)) : rd_L4 S i ∈ S := by
  obtain ⟨n, rfl⟩ : ∃ n : Nat, i = (n : Int) := ⟨i.toNat, by omega⟩
  rw [rdS_nat S n (by omega)]
  exact List.getElem_mem _
end Go.Proofs.Ytennnaibnlmjlaa.Q
