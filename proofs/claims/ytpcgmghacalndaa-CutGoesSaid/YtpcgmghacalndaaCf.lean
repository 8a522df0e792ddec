/-
  The contract of the reference's Next.
-/
import Derived.Test.YtpcgmghacalndaaCd
set_option linter.unusedVariables false
set_option linter.unusedSimpArgs false
namespace Go.Proofs.Ytpcgmghacalndaa
open Go.RowKit
set_option maxRecDepth 100000 in
set_option maxHeartbeats 1000000 in
theorem rnext0 (go made opn drained failed settled waits dropped swapped clear late stop : Bool) (w : World) : Calls Try.prog 15 #[.int .i64 0, .agg #[.bool go, .bool made, .bool opn, .bool drained, .bool failed, .bool settled, .bool waits, .bool dropped, .bool swapped, .bool clear, .bool late, .bool stop]] w fun e w' => e = .returned (.tuple #[.int .i64 (nextS 0 go made opn drained failed settled waits dropped swapped clear late stop), .int .i64 0]) ∧ Bel w w' := by
  go_enter Try.func15, Try.ntmps15
  go_wp2
  all_goals
    go_ret2
    refine ⟨?_, by (repeat (first | exact Below.refl _ _ | assumption | exact Bel.refl _ | refine Bel.alloc ?_ _ | refine Bel.drew ?_ | refine Bel.drewN ?_ _ | refine Bel.then_ ?_ (by assumption) | refine Bel.setCell ?_ (by first | (simp; done) | (simp; omega)) _))⟩
    simp_all [nextS, onS]

set_option maxRecDepth 100000 in
set_option maxHeartbeats 1000000 in
theorem rnext1 (go made opn drained failed settled waits dropped swapped clear late stop : Bool) (w : World) : Calls Try.prog 15 #[.int .i64 1, .agg #[.bool go, .bool made, .bool opn, .bool drained, .bool failed, .bool settled, .bool waits, .bool dropped, .bool swapped, .bool clear, .bool late, .bool stop]] w fun e w' => e = .returned (.tuple #[.int .i64 (nextS 1 go made opn drained failed settled waits dropped swapped clear late stop), .int .i64 0]) ∧ Bel w w' := by
  go_enter Try.func15, Try.ntmps15
  go_wp2
  all_goals
    go_ret2
    refine ⟨?_, by (repeat (first | exact Below.refl _ _ | assumption | exact Bel.refl _ | refine Bel.alloc ?_ _ | refine Bel.drew ?_ | refine Bel.drewN ?_ _ | refine Bel.then_ ?_ (by assumption) | refine Bel.setCell ?_ (by first | (simp; done) | (simp; omega)) _))⟩
    simp_all [nextS, onS]

set_option maxRecDepth 100000 in
set_option maxHeartbeats 1000000 in
theorem rnext2 (go made opn drained failed settled waits dropped swapped clear late stop : Bool) (w : World) : Calls Try.prog 15 #[.int .i64 2, .agg #[.bool go, .bool made, .bool opn, .bool drained, .bool failed, .bool settled, .bool waits, .bool dropped, .bool swapped, .bool clear, .bool late, .bool stop]] w fun e w' => e = .returned (.tuple #[.int .i64 (nextS 2 go made opn drained failed settled waits dropped swapped clear late stop), .int .i64 0]) ∧ Bel w w' := by
  go_enter Try.func15, Try.ntmps15
  go_wp2
  all_goals
    go_ret2
    refine ⟨?_, by (repeat (first | exact Below.refl _ _ | assumption | exact Bel.refl _ | refine Bel.alloc ?_ _ | refine Bel.drew ?_ | refine Bel.drewN ?_ _ | refine Bel.then_ ?_ (by assumption) | refine Bel.setCell ?_ (by first | (simp; done) | (simp; omega)) _))⟩
    simp_all [nextS, onS]

set_option maxRecDepth 100000 in
set_option maxHeartbeats 1000000 in
theorem rnext3 (go made opn drained failed settled waits dropped swapped clear late stop : Bool) (w : World) : Calls Try.prog 15 #[.int .i64 3, .agg #[.bool go, .bool made, .bool opn, .bool drained, .bool failed, .bool settled, .bool waits, .bool dropped, .bool swapped, .bool clear, .bool late, .bool stop]] w fun e w' => e = .returned (.tuple #[.int .i64 (nextS 3 go made opn drained failed settled waits dropped swapped clear late stop), .int .i64 0]) ∧ Bel w w' := by
  go_enter Try.func15, Try.ntmps15
  go_wp2
  all_goals
    go_ret2
    refine ⟨?_, by (repeat (first | exact Below.refl _ _ | assumption | exact Bel.refl _ | refine Bel.alloc ?_ _ | refine Bel.drew ?_ | refine Bel.drewN ?_ _ | refine Bel.then_ ?_ (by assumption) | refine Bel.setCell ?_ (by first | (simp; done) | (simp; omega)) _))⟩
    simp_all [nextS, onS]

set_option maxRecDepth 100000 in
set_option maxHeartbeats 1000000 in
theorem rnext4 (go made opn drained failed settled waits dropped swapped clear late stop : Bool) (w : World) : Calls Try.prog 15 #[.int .i64 4, .agg #[.bool go, .bool made, .bool opn, .bool drained, .bool failed, .bool settled, .bool waits, .bool dropped, .bool swapped, .bool clear, .bool late, .bool stop]] w fun e w' => e = .returned (.tuple #[.int .i64 (nextS 4 go made opn drained failed settled waits dropped swapped clear late stop), .int .i64 0]) ∧ Bel w w' := by
  go_enter Try.func15, Try.ntmps15
  go_wp2
  all_goals
    go_ret2
    refine ⟨?_, by (repeat (first | exact Below.refl _ _ | assumption | exact Bel.refl _ | refine Bel.alloc ?_ _ | refine Bel.drew ?_ | refine Bel.drewN ?_ _ | refine Bel.then_ ?_ (by assumption) | refine Bel.setCell ?_ (by first | (simp; done) | (simp; omega)) _))⟩
    simp_all [nextS, onS]

set_option maxRecDepth 100000 in
set_option maxHeartbeats 1000000 in
theorem rnext5 (go made opn drained failed settled waits dropped swapped clear late stop : Bool) (w : World) : Calls Try.prog 15 #[.int .i64 5, .agg #[.bool go, .bool made, .bool opn, .bool drained, .bool failed, .bool settled, .bool waits, .bool dropped, .bool swapped, .bool clear, .bool late, .bool stop]] w fun e w' => e = .returned (.tuple #[.int .i64 (nextS 5 go made opn drained failed settled waits dropped swapped clear late stop), .int .i64 0]) ∧ Bel w w' := by
  go_enter Try.func15, Try.ntmps15
  go_wp2
  all_goals
    go_ret2
    refine ⟨?_, by (repeat (first | exact Below.refl _ _ | assumption | exact Bel.refl _ | refine Bel.alloc ?_ _ | refine Bel.drew ?_ | refine Bel.drewN ?_ _ | refine Bel.then_ ?_ (by assumption) | refine Bel.setCell ?_ (by first | (simp; done) | (simp; omega)) _))⟩
    simp_all [nextS, onS]

set_option maxRecDepth 100000 in
set_option maxHeartbeats 1000000 in
theorem rnext6 (go made opn drained failed settled waits dropped swapped clear late stop : Bool) (w : World) : Calls Try.prog 15 #[.int .i64 6, .agg #[.bool go, .bool made, .bool opn, .bool drained, .bool failed, .bool settled, .bool waits, .bool dropped, .bool swapped, .bool clear, .bool late, .bool stop]] w fun e w' => e = .returned (.tuple #[.int .i64 (nextS 6 go made opn drained failed settled waits dropped swapped clear late stop), .int .i64 0]) ∧ Bel w w' := by
  go_enter Try.func15, Try.ntmps15
  go_wp2
  all_goals
    go_ret2
    refine ⟨?_, by (repeat (first | exact Below.refl _ _ | assumption | exact Bel.refl _ | refine Bel.alloc ?_ _ | refine Bel.drew ?_ | refine Bel.drewN ?_ _ | refine Bel.then_ ?_ (by assumption) | refine Bel.setCell ?_ (by first | (simp; done) | (simp; omega)) _))⟩
    simp_all [nextS, onS]

set_option maxRecDepth 100000 in
set_option maxHeartbeats 1000000 in
theorem rnext7 (go made opn drained failed settled waits dropped swapped clear late stop : Bool) (w : World) : Calls Try.prog 15 #[.int .i64 7, .agg #[.bool go, .bool made, .bool opn, .bool drained, .bool failed, .bool settled, .bool waits, .bool dropped, .bool swapped, .bool clear, .bool late, .bool stop]] w fun e w' => e = .returned (.tuple #[.int .i64 (nextS 7 go made opn drained failed settled waits dropped swapped clear late stop), .int .i64 0]) ∧ Bel w w' := by
  go_enter Try.func15, Try.ntmps15
  go_wp2
  all_goals
    go_ret2
    refine ⟨?_, by (repeat (first | exact Below.refl _ _ | assumption | exact Bel.refl _ | refine Bel.alloc ?_ _ | refine Bel.drew ?_ | refine Bel.drewN ?_ _ | refine Bel.then_ ?_ (by assumption) | refine Bel.setCell ?_ (by first | (simp; done) | (simp; omega)) _))⟩
    simp_all [nextS, onS]

set_option maxRecDepth 100000 in
set_option maxHeartbeats 1000000 in
theorem rnext8 (go made opn drained failed settled waits dropped swapped clear late stop : Bool) (w : World) : Calls Try.prog 15 #[.int .i64 8, .agg #[.bool go, .bool made, .bool opn, .bool drained, .bool failed, .bool settled, .bool waits, .bool dropped, .bool swapped, .bool clear, .bool late, .bool stop]] w fun e w' => e = .returned (.tuple #[.int .i64 (nextS 8 go made opn drained failed settled waits dropped swapped clear late stop), .int .i64 0]) ∧ Bel w w' := by
  go_enter Try.func15, Try.ntmps15
  go_wp2
  all_goals
    go_ret2
    refine ⟨?_, by (repeat (first | exact Below.refl _ _ | assumption | exact Bel.refl _ | refine Bel.alloc ?_ _ | refine Bel.drew ?_ | refine Bel.drewN ?_ _ | refine Bel.then_ ?_ (by assumption) | refine Bel.setCell ?_ (by first | (simp; done) | (simp; omega)) _))⟩
    simp_all [nextS, onS]

set_option maxRecDepth 100000 in
set_option maxHeartbeats 1000000 in
theorem rnext9 (go made opn drained failed settled waits dropped swapped clear late stop : Bool) (w : World) : Calls Try.prog 15 #[.int .i64 9, .agg #[.bool go, .bool made, .bool opn, .bool drained, .bool failed, .bool settled, .bool waits, .bool dropped, .bool swapped, .bool clear, .bool late, .bool stop]] w fun e w' => e = .returned (.tuple #[.int .i64 (nextS 9 go made opn drained failed settled waits dropped swapped clear late stop), .int .i64 0]) ∧ Bel w w' := by
  go_enter Try.func15, Try.ntmps15
  go_wp2
  all_goals
    go_ret2
    refine ⟨?_, by (repeat (first | exact Below.refl _ _ | assumption | exact Bel.refl _ | refine Bel.alloc ?_ _ | refine Bel.drew ?_ | refine Bel.drewN ?_ _ | refine Bel.then_ ?_ (by assumption) | refine Bel.setCell ?_ (by first | (simp; done) | (simp; omega)) _))⟩
    simp_all [nextS, onS]
set_option maxRecDepth 100000 in
set_option maxHeartbeats 1000000 in
theorem rnext_out (s : Int) (h : s < 0 ∨ 9 < s) (go made opn drained failed settled waits dropped swapped clear late stop : Bool) (w : World) : Calls Try.prog 15 #[.int .i64 s, .agg #[.bool go, .bool made, .bool opn, .bool drained, .bool failed, .bool settled, .bool waits, .bool dropped, .bool swapped, .bool clear, .bool late, .bool stop]] w fun e w' => e = .returned (.tuple #[.int .i64 0, .int .i64 2]) ∧ Bel w w' := by
  rcases h with h | h
  · go_enter Try.func15, Try.ntmps15
    go_wp2
    go_ret2
    exact ⟨rfl, by (repeat (first | exact Below.refl _ _ | assumption | exact Bel.refl _ | refine Bel.alloc ?_ _ | refine Bel.drew ?_ | refine Bel.drewN ?_ _ | refine Bel.then_ ?_ (by assumption) | refine Bel.setCell ?_ (by first | (simp; done) | (simp; omega)) _))⟩
  · have hb : decide (s ≤ 9) = false := by simp; omega
    go_enter Try.func15, Try.ntmps15
    go_wp2
    go_ret2
    exact ⟨rfl, by (repeat (first | exact Below.refl _ _ | assumption | exact Bel.refl _ | refine Bel.alloc ?_ _ | refine Bel.drew ?_ | refine Bel.drewN ?_ _ | refine Bel.then_ ?_ (by assumption) | refine Bel.setCell ?_ (by first | (simp; done) | (simp; omega)) _))⟩
end Go.Proofs.Ytpcgmghacalndaa
