/- What the three rows of texts share: the list of laid variables is met by the door's own heap, and gives the library's table. No condition. -/
import Derived.Test.YtknigfnbhlmlgaaDoorRows
import Derived.Lib.LaidTab
import Derived.Stop.LaidErr
import Derived.Stop.Joined
import Derived.ProofKit
import Derived.LaidMore
import Derived.OpenShut
import Derived.Test.YtknigfnbhlmlgaaDoorY7
namespace Go.Proofs.YtknigfnbhlmlgaaDoor.Q
open Go.ChangeShapes Go.WideShapes Go.ChangeAt Go.RowKit Go.Proofs.YtknigfnbhlmlgaaDoor.Y Go.Proofs.YtknigfnbhlmlgaaDoorW.PrintWords Go.Proofs.YtknigfnbhlmlgaaDoorW.PrintLast

theorem own : ownKnob Tryd.prog.godebug = none := by kernel_rfl
theorem laidOut : laidOutB Tryd.prog = true := by kernel_rfl
theorem tab_type : (Tryd.prog.globals[3]?).map (·.type) = some 143 := by kernel_rfl
theorem tab_cells : Tryd.prog.cellsOf 143 = 20 := by kernel_rfl
theorem num_cells : Tryd.prog.cellsOf 128 = 1 := by kernel_rfl
theorem tab_data : Rows.laid_internal_strconv_uint64pow10 (H := Unit) = Go.Lib.tabData .u64 Go.Lib.pow10Tab := by kernel_rfl
set_option maxRecDepth 100000 in
/-- The door's own heap meets the condition. -/
theorem door_met (os : Os) (args : Array Value) : laidMetH Tryd.prog Rows.fnExactBornTextRow.laid ((World.doorLaid Tryd.prog 400 os).forCall (fun _ _ => 0) ⟨#[], args, []⟩).memory :=
  laidMetH_of_parts3 (fuel := 8) (laidMet_of_run' 8 (by kernel_rfl) (by kernel_rfl)) (by kernel_rfl) (by kernel_rfl)
/-- What the condition gives the walks. -/
theorem tab_of_laid {W : World} (h : laidMetH Tryd.prog Rows.fnExactBornTextRow.laid W) : Tab W := by
  rw [MakeChecks.laidMetH_plain _ _ _ (by kernel_rfl)] at h
  have h2 : laidMet Tryd.prog [("internal/strconv.uint64pow10", Rows.laid_internal_strconv_uint64pow10)] W := laidMet.tail (laidMet.tail h)
  rw [tab_data] at h2
  exact Go.Lib.tabIs_of_head tab_g tab_type Tryd.underlying143 Tryd.underlying128 num_cells tab_cells h2
end Go.Proofs.YtknigfnbhlmlgaaDoor.Q
