/- The library's table of powers of ten, as a walk holds it. Condition: it lies where the row says. -/
import Derived.Test.YtknigfnbhlmlgaaDoorShelf
import Derived.Lib.AppendIntMem
import Derived.Lib.ItoaLen
import Derived.WalkSmall
import Derived.Test.YtknigfnbhlmlgaaDoorR0
namespace Go.Proofs.YtknigfnbhlmlgaaDoor.Q
open Go.RowKit Go.Proofs.YtknigfnbhlmlgaaDoor.R Go.Proofs.YtknigfnbhlmlgaaDoorW.PrintWords Go.Proofs.YtknigfnbhlmlgaaDoorW.PrintLast
set_option linter.unusedVariables false

/-- The library's table of powers of ten lies. -/
def Tab (w : World) : Prop := Go.Lib.TabIs Tryd.prog w "internal/strconv.uint64pow10" .u64 Go.Lib.pow10Tab
theorem tab_g : Tryd.prog.globalNamed "internal/strconv.uint64pow10" = some 3 := by kernel_rfl
theorem Tab.lt {w : World} (h : Tab w) : 3 < w.heap.size := World.block_lt_of_cell? w _ (Go.Lib.TabIs.cell h tab_g 0 (by decide))
theorem Tab.below {w w' : World} (h : Tab w) (hb : Below w.heap.size w w') : Tab w' := var?_below hb tab_g h.lt h
theorem tx_info : (Tryd.prog.info? 9).map (fun i => (i.zero, i.size, i.bytes)) = some (some (.string ⟨#[]⟩), 1, 16) := by kernel_rfl
theorem law_undrew {w w' : World} (h : Below w.drew.heap.size w.drew w') : Below w.heap.size w w' := ⟨h.os, h.tape, h.output, h.size, h.block⟩
/-- strconv.Itoa, as the walks call it. -/
theorem itoa_calls (y : Int) (sy : ByteArray) (w : World) (hs : sy = (⟨(Go.Lib.itoa y).toArray⟩ : ByteArray)) (hy : 0 ≤ y ∧ y ≤ 100000) (ht : Tab w) :
    Calls Tryd.prog 63 #[.int .i64 y] w fun e w' => e = .returned (.string sy) ∧ Below w.heap.size w w' := by
  subst hs
  refine (Tryd.strconv_Itoa y (by omega) (by omega) w ht).mono ?_
  rintro e w2 ⟨rfl, kk, os_, hw⟩
  exact ⟨rfl, by rw [hw]; exact Go.Lib.below_grow _ _ (Nat.le_refl _) kk os_⟩
theorem itoa_size (y : Int) (sy : ByteArray) (hs : sy = (⟨(Go.Lib.itoa y).toArray⟩ : ByteArray)) (hy : 0 ≤ y ∧ y ≤ 100000) : sy.size ≤ 21 := by
  subst hs
  have := Go.Lib.itoa_length_le y (by omega) (by omega)
  simpa [ByteArray.size] using this
end Go.Proofs.YtknigfnbhlmlgaaDoor.Q
