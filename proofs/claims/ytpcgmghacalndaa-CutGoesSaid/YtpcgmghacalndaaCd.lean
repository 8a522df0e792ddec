/-
  What a cutover's step comes to.
-/
import Derived.Test.YtpcgmghacalndaaCs
set_option linter.unusedVariables false
set_option linter.unusedSimpArgs false
namespace Go.Proofs.Ytpcgmghacalndaa
open Go.RowKit

/-- Does a step go on? -/
def onS (s : Int) (go made opn drained failed settled waits dropped swapped clear late stop : Bool) : Bool :=
  if s = 0 then go else if s = 1 then made else if s = 2 then opn else if s = 3 then drained else if s = 4 then settled else if s = 5 then waits else if s = 6 then dropped else if s = 7 then swapped else if s = 8 then clear else false
/-- The step to which it goes. -/
def nextS (s : Int) (go made opn drained failed settled waits dropped swapped clear late stop : Bool) : Int :=
  if s = 7 ∧ swapped = true then 9 else if (1 ≤ s ∧ s ≤ 7 ∧ (late = true ∨ stop = true)) ∨ (s = 4 ∧ failed = true) then 8 else if onS s go made opn drained failed settled waits dropped swapped clear late stop = false then s else if s = 8 then 0 else s + 1
theorem idx0 (w : World) : (Instr.index 80 (.agg stepCells) (.int .i64 0)).run Try.prog w = .ok (.agg #[.string ⟨#[110, 111, 110, 101]⟩, .func (.func 43) #[] #[], .int .i64 1]) w := by kernel_rfl
theorem idx1 (w : World) : (Instr.index 80 (.agg stepCells) (.int .i64 1)).run Try.prog w = .ok (.agg #[.string ⟨#[109, 97, 107, 101]⟩, .func (.func 44) #[] #[], .int .i64 2]) w := by kernel_rfl
theorem idx2 (w : World) : (Instr.index 80 (.agg stepCells) (.int .i64 2)).run Try.prog w = .ok (.agg #[.string ⟨#[108, 111, 99, 107]⟩, .func (.func 45) #[] #[], .int .i64 3]) w := by kernel_rfl
theorem idx3 (w : World) : (Instr.index 80 (.agg stepCells) (.int .i64 3)).run Try.prog w = .ok (.agg #[.string ⟨#[100, 114, 97, 105, 110]⟩, .func (.func 46) #[] #[], .int .i64 4]) w := by kernel_rfl
theorem idx4 (w : World) : (Instr.index 80 (.agg stepCells) (.int .i64 4)).run Try.prog w = .ok (.agg #[.string ⟨#[115, 101, 116, 116, 108, 101]⟩, .func (.func 47) #[] #[], .int .i64 5]) w := by kernel_rfl
theorem idx5 (w : World) : (Instr.index 80 (.agg stepCells) (.int .i64 5)).run Try.prog w = .ok (.agg #[.string ⟨#[97, 115, 107]⟩, .func (.func 48) #[] #[], .int .i64 6]) w := by kernel_rfl
theorem idx6 (w : World) : (Instr.index 80 (.agg stepCells) (.int .i64 6)).run Try.prog w = .ok (.agg #[.string ⟨#[100, 114, 111, 112]⟩, .func (.func 49) #[] #[], .int .i64 7]) w := by kernel_rfl
theorem idx7 (w : World) : (Instr.index 80 (.agg stepCells) (.int .i64 7)).run Try.prog w = .ok (.agg #[.string ⟨#[115, 119, 97, 112]⟩, .func (.func 50) #[] #[], .int .i64 9]) w := by kernel_rfl
theorem idx8 (w : World) : (Instr.index 80 (.agg stepCells) (.int .i64 8)).run Try.prog w = .ok (.agg #[.string ⟨#[98, 97, 99, 107]⟩, .func (.func 51) #[] #[], .int .i64 0]) w := by kernel_rfl
theorem idx9 (w : World) : (Instr.index 80 (.agg stepCells) (.int .i64 9)).run Try.prog w = .ok (.agg #[.string ⟨#[100, 111, 110, 101]⟩, .func (.func 52) #[] #[], .int .i64 9]) w := by kernel_rfl
theorem fld77 (s f : Value) (k : Int) (w : World) : (Instr.field 77 (.agg #[s, f, .int .i64 k]) 0).run Try.prog w = .ok s w := by kernel_rfl
end Go.Proofs.Ytpcgmghacalndaa
