/- Chapter 9 (puzzles): clues without the one at an index. -/
import Derived.Test.YtennnaibnlmjlaaQhPuzH
import Derived.Test.YtennnaibnlmjlaaH0
import Derived.Test.YtennnaibnlmjlaaH13
import Derived.Test.YtennnaibnlmjlaaH5
namespace Go.Proofs.Ytennnaibnlmjlaa.Q
open Go.RowKit Go.Proofs.Ytennnaibnlmjlaa.H Go.Proofs.YtennnaibnlmjlaaW.PrintWords Go.Proofs.YtennnaibnlmjlaaW.PrintLast
set_option linter.unusedSimpArgs false

theorem without_both (cl : List S55) (i : Nat) (hi : i < cl.length) (hl : cl.length ≤ 6) : spec_pzWithout.f cl i = some (cl.eraseIdx i) ∧ impl_without.f cl i = some (cl.eraseIdx i) := by
  constructor
  · unfold spec_pzWithout.f
    simp only [Option.bind_some, w64n (show i < 9223372036854775807 by omega), Int.toNat_natCast, List.nil_append, List.length_nil, Nat.zero_add, if_pos (show 0 ≤ (i : Int) by omega), if_pos (show (i : Int) ≤ (cl.length : Int) by omega), if_pos (show 0 ≤ ((i + 1 : Nat) : Int) by omega), if_pos (show ((i + 1 : Nat) : Int) ≤ (cl.length : Int) by omega), if_pos (show (cl.take i).length < 5864062014805 by rw [List.length_take]; omega), if_pos (show (cl.take i).length + (cl.drop (i + 1)).length < 5864062014805 by rw [List.length_take, List.length_drop]; omega)]
    rw [List.eraseIdx_eq_take_drop_succ]
  · unfold impl_without.f
    rw [if_pos ⟨by omega, by omega, by omega⟩, Int.toNat_natCast]
end Go.Proofs.Ytennnaibnlmjlaa.Q
