/- What a walk holds of the library's variables: the table of powers of ten lies, MaxLen holds a number, both sentinels hold an error. Conditions: as typed. -/
import Derived.Test.YtecdijlfnnminaaGreatDoorShelfP
import Derived.WalkSmall
import Derived.Lib.SplitLaws
import Derived.Lib.AtoiAllCases
import Derived.Lib.Atoi
set_option linter.all false
namespace Go.Proofs.YtecdijlfnnminaaGreatDoor
open Go Go.RowKit

/-- The library's variables, as the walks need them. -/
def Tab (w : World) : Prop := Go.Lib.TabIs Tryz.prog w "internal/strconv.uint64pow10" .u64 Go.Lib.pow10Tab ∧ (∃ m, w.cell? ⟨0, 0, none⟩ = some (.int .i64 m)) ∧ (∃ tp p, w.var? Tryz.prog "strconv.ErrSyntax" = some #[.iface tp p]) ∧ ∃ tp p, w.var? Tryz.prog "strconv.ErrRange" = some #[.iface tp p]
theorem tab_g : Tryz.prog.globalNamed "internal/strconv.uint64pow10" = some 3 := by kernel_rfl
theorem syn_g : Tryz.prog.globalNamed "strconv.ErrSyntax" = some 1 := by kernel_rfl
theorem ran_g : Tryz.prog.globalNamed "strconv.ErrRange" = some 2 := by kernel_rfl
theorem var_lt {w : World} {n : String} {g : Nat} {cs : Array Value} (hg : Tryz.prog.globalNamed n = some g) (h : w.var? Tryz.prog n = some cs) : g < w.heap.size := by
 unfold World.var? at h
 rw [hg, Option.bind_some] at h
 cases hh : w.heap[g]? with
 | none => rw [hh] at h; cases h
 | some o => exact (Array.getElem?_eq_some_iff.mp hh).1
theorem Tab.tab {w : World} (h : Tab w) : Go.Lib.TabIs Tryz.prog w "internal/strconv.uint64pow10" .u64 Go.Lib.pow10Tab := h.1
theorem Tab.lt {w : World} (h : Tab w) : 3 < w.heap.size := World.block_lt_of_cell? w _ (Go.Lib.TabIs.cell h.1 tab_g 0 (by decide))
theorem Tab.below {w w' : World} (h : Tab w) (hb : Below w.heap.size w w') : Tab w' := by
 have hl := h.lt
 obtain ⟨h1, ⟨m, hm⟩, ⟨t1, p1, hs⟩, t2, p2, hr⟩ := h
 exact ⟨var?_below hb tab_g hl h1, ⟨m, (hb.cell (World.block_lt_of_cell? w _ hm)).trans hm⟩, ⟨t1, p1, var?_below hb syn_g (var_lt syn_g hs) hs⟩, t2, p2, var?_below hb ran_g (var_lt ran_g hr) hr⟩
end Go.Proofs.YtecdijlfnnminaaGreatDoor
