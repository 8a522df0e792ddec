/-
  The contract of cut.Next where there is no step.
-/
import Derived.Test.YtpcgmghacalndaaCd
set_option linter.unusedVariables false
set_option linter.unusedSimpArgs false
namespace Go.Proofs.Ytpcgmghacalndaa
open Go.RowKit
set_option maxRecDepth 100000 in
set_option maxHeartbeats 1000000 in
theorem next_out (s : Int) (h : s < 0 ∨ 9 < s) (go made opn drained failed settled waits dropped swapped clear late stop : Bool) (w : World) : Calls Try.prog 14 #[.int .i64 s, .agg #[.bool go, .bool made, .bool opn, .bool drained, .bool failed, .bool settled, .bool waits, .bool dropped, .bool swapped, .bool clear, .bool late, .bool stop]] w fun e w' => e = .returned (.tuple #[.int .i64 0, .int .i64 2]) ∧ Bel w w' := by
  rcases h with h | h
  · skip
    go_enter Try.func14, Try.ntmps14
    go_wp2
    refine wp_scope_forward 0 rfl ?_
    go_wp2_with (first | (go_at_call 35; go_in) | (go_at_call 39; go_in))
    go_step3
    refine ⟨rfl, ?_⟩
    go_wp2
    rw [Exit.noGoto_ret]
    go_ret2
    exact ⟨rfl, by (repeat (first | exact Below.refl _ _ | assumption | exact Bel.refl _ | refine Bel.alloc ?_ _ | refine Bel.drew ?_ | refine Bel.drewN ?_ _ | refine Bel.then_ ?_ (by assumption) | refine Bel.setCell ?_ (by first | (simp; done) | (simp; omega)) _))⟩
  · have hb : decide (s ≤ 9) = false := by simp; omega
    go_enter Try.func14, Try.ntmps14
    go_wp2
    refine wp_scope_forward 0 rfl ?_
    go_wp2_with (first | (go_at_call 35; go_in) | (go_at_call 39; go_in))
    go_step3
    refine ⟨rfl, ?_⟩
    go_wp2
    rw [Exit.noGoto_ret]
    go_ret2
    exact ⟨rfl, by (repeat (first | exact Below.refl _ _ | assumption | exact Bel.refl _ | refine Bel.alloc ?_ _ | refine Bel.drew ?_ | refine Bel.drewN ?_ _ | refine Bel.then_ ?_ (by assumption) | refine Bel.setCell ?_ (by first | (simp; done) | (simp; omega)) _))⟩
end Go.Proofs.Ytpcgmghacalndaa
