/-
  The contract of package cut's table of steps.
-/
import Derived.Test.YtpcgmghacalndaaKit
import Derived.Laws.EntriesVeiled
import Derived.Laws.CopyOwn
set_option linter.unusedVariables false
set_option linter.unusedSimpArgs false
namespace Go.Proofs.Ytpcgmghacalndaa
open Go.RowKit
/-- A text. -/
def tx (l : List UInt8) : Value := .string ⟨l.toArray⟩
def fnv (k : Nat) : Value := .func (.func k) #[] #[]
/-- The table's cells. -/
def stepCells : Array Value := #[tx [110, 111, 110, 101], fnv 43, .int .i64 1, tx [109, 97, 107, 101], fnv 44, .int .i64 2, tx [108, 111, 99, 107], fnv 45, .int .i64 3, tx [100, 114, 97, 105, 110], fnv 46, .int .i64 4,
  tx [115, 101, 116, 116, 108, 101], fnv 47, .int .i64 5, tx [97, 115, 107], fnv 48, .int .i64 6, tx [100, 114, 111, 112], fnv 49, .int .i64 7, tx [115, 119, 97, 112], fnv 50, .int .i64 9, tx [98, 97, 99, 107], fnv 51, .int .i64 0, tx [100, 111, 110, 101], fnv 52, .int .i64 9]
set_option maxRecDepth 100000 in
set_option maxHeartbeats 1000000 in
theorem steps_any (w : World) : Calls Try.prog 36 #[] w fun e w' => e = .returned (.agg stepCells) ∧ Bel w w' := by
  have one : stepCells.all (·.oneCell') = true := by kernel_rfl
  go_enter Try.func36, Try.ntmps36
  go_wp2_with (refine wpList_store_row rfl 80 (.tmp 0) (.tmp 11) rfl w.heap.size stepCells rfl rfl _ _ (heap_alloc_new _ _) (by kernel_rfl) rfl one ?_)
  refine bodyPost_ret (v := .agg stepCells) (results_cell_row rfl _ _ w.heap.size _ stepCells _ _ rfl (setRow_heap _ _ _ _ _ _ (heap_alloc_new _ _)) Try.underlying80 rfl (by kernel_rfl)) rfl ⟨rfl, below_setRow (Bel.alloc (Bel.refl _) _) (Nat.le_refl _) _⟩
end Go.Proofs.Ytpcgmghacalndaa
