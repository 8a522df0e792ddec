/-
  cut.Blocks, answer by answer.
-/
import Derived.Test.YtpcgmghacalndaaCl
set_option linter.unusedVariables false
set_option linter.unusedSimpArgs false
namespace Go.Proofs.Ytpcgmghacalndaa
open Go.RowKit
set_option maxRecDepth 100000 in
set_option maxHeartbeats 1000000 in
theorem blocks_yes (s : Int) (h : 2 ≤ s ∧ s ≤ 7) (w : World) : Calls Try.prog 19 #[.int .i64 s] w fun e w' => e = .returned (.bool true) ∧ w = w' := by
  obtain ⟨h1, h2⟩ := h
  go_enter Try.func19, Try.ntmps19
  go_wp2_with (go_in)
  go_ret
  exact ⟨rfl, rfl⟩
set_option maxRecDepth 100000 in
set_option maxHeartbeats 1000000 in
theorem blocks_no (s : Int) (h : s < 2 ∨ 7 < s) (w : World) : Calls Try.prog 19 #[.int .i64 s] w fun e w' => e = .returned (.bool false) ∧ w = w' := by
  rcases h with h | h
  · go_enter Try.func19, Try.ntmps19
    go_wp2_with (go_in)
    go_ret
    exact ⟨rfl, rfl⟩
  · have hd : decide (s ≤ 7) = false := by simp; omega
    go_enter Try.func19, Try.ntmps19
    go_wp2_with (go_in)
    go_ret
    exact ⟨rfl, rfl⟩
end Go.Proofs.Ytpcgmghacalndaa
