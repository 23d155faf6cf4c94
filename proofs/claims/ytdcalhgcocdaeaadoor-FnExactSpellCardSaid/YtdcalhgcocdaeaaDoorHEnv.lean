/-
  What the calls read of the library's own variables, and that it stays: the table of powers of ten is laid, and internal/bytealg's MaxLen holds some int. No condition.
-/
import Derived.Test.YtdcalhgcocdaeaaDoorShelf
import Derived.Test.YtdcalhgcocdaeaaDoorLDefs
import Derived.Lib.AppendIntMem
set_option linter.unusedVariables false
namespace Go.Proofs.YtdcalhgcocdaeaaDoor.K
open Go Go.Shelf Go.RowKit
structure Env (w : World) : Prop where
  cell : ∃ m, w.cell? ⟨0, 0, none⟩ = some (.int .i64 m)
  tab : Lib.TabIs Tryd.prog w "internal/strconv.uint64pow10" .u64 Lib.pow10Tab
theorem Env.below {w w' : World} (h : Env w) (hb : Below w.heap.size w w') : Env w' := by
  obtain ⟨⟨m, hm⟩, ht⟩ := h
  exact ⟨⟨m, (hb.cell (World.block_lt_of_cell? w _ hm)).trans hm⟩, Lib.tabBelow_of_tabIs ht w' hb⟩
end Go.Proofs.YtdcalhgcocdaeaaDoor.K
