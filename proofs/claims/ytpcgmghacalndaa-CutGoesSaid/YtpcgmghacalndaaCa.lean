/-
  The contract of cut.Next, steps 0 to 3.
-/
import Derived.Test.YtpcgmghacalndaaCd
set_option linter.unusedVariables false
set_option linter.unusedSimpArgs false
namespace Go.Proofs.Ytpcgmghacalndaa
open Go.RowKit
set_option maxRecDepth 100000 in
set_option maxHeartbeats 1000000 in
theorem next0 (go made opn drained failed settled waits dropped swapped clear late stop : Bool) (w : World) : Calls Try.prog 14 #[.int .i64 0, .agg #[.bool go, .bool made, .bool opn, .bool drained, .bool failed, .bool settled, .bool waits, .bool dropped, .bool swapped, .bool clear, .bool late, .bool stop]] w fun e w' => e = .returned (.tuple #[.int .i64 (nextS 0 go made opn drained failed settled waits dropped swapped clear late stop), .int .i64 0]) ∧ Bel w w' := by
  have i0 := idx0
  go_enter Try.func14, Try.ntmps14
  go_wp2
  go_step3
  go_wp2_with (first | (go_at_call 35; go_in) | (go_at_call 39; go_in))
  refine (steps_any _).mono ?_
  rintro e1 w1 ⟨rfl, hb1⟩
  obtain ⟨hc1, hf1, hs1⟩ := bcell hb1
  try simp only [World.size_alloc, World.size_drew, World.size_setCell] at hs1 hc1 hf1
  have hc1_w := fun o => hc1 (w.heap.size) o (by omega)
  have hl1_w : w.heap.size < w1.heap.size := by omega
  have hf1_w := fun o => hf1 (w.heap.size) o (by omega)
  have hc1_wp := fun o => hc1 (w.heap.size + 1) o (by omega)
  have hl1_wp : w.heap.size + 1 < w1.heap.size := by omega
  have hf1_wp := fun o => hf1 (w.heap.size + 1) o (by omega)
  have hc1_wpp := fun o => hc1 (w.heap.size + 1 + 1) o (by omega)
  have hl1_wpp : w.heap.size + 1 + 1 < w1.heap.size := by omega
  have hf1_wpp := fun o => hf1 (w.heap.size + 1 + 1) o (by omega)
  have hw1 : Bel w w1 := by (repeat (first | exact Below.refl _ _ | assumption | exact Bel.refl _ | refine Bel.alloc ?_ _ | refine Bel.drew ?_ | refine Bel.drewN ?_ _ | refine Bel.then_ ?_ (by assumption) | refine Bel.setCell ?_ (by first | (simp; done) | (simp; omega)) _))
  clear hc1 hf1
  obtain ⟨hcw1, hfw1, hsw1⟩ := bcell hw1
  go_wp2_with (go_in)
  all_goals
    try rw [Exit.noGoto_ret]
    go_ret2
    refine ⟨?_, by (repeat (first | exact Below.refl _ _ | assumption | exact Bel.refl _ | refine Bel.alloc ?_ _ | refine Bel.drew ?_ | refine Bel.drewN ?_ _ | refine Bel.then_ ?_ (by assumption) | refine Bel.setCell ?_ (by first | (simp; done) | (simp; omega)) _))⟩
    simp [nextS, onS, *]

set_option maxRecDepth 100000 in
set_option maxHeartbeats 1000000 in
theorem next1 (go made opn drained failed settled waits dropped swapped clear late stop : Bool) (w : World) : Calls Try.prog 14 #[.int .i64 1, .agg #[.bool go, .bool made, .bool opn, .bool drained, .bool failed, .bool settled, .bool waits, .bool dropped, .bool swapped, .bool clear, .bool late, .bool stop]] w fun e w' => e = .returned (.tuple #[.int .i64 (nextS 1 go made opn drained failed settled waits dropped swapped clear late stop), .int .i64 0]) ∧ Bel w w' := by
  have i0 := idx1
  go_enter Try.func14, Try.ntmps14
  go_wp2
  go_step3
  go_wp2_with (first | (go_at_call 35; go_in) | (go_at_call 39; go_in))
  refine (steps_any _).mono ?_
  rintro e1 w1 ⟨rfl, hb1⟩
  obtain ⟨hc1, hf1, hs1⟩ := bcell hb1
  try simp only [World.size_alloc, World.size_drew, World.size_setCell] at hs1 hc1 hf1
  have hc1_w := fun o => hc1 (w.heap.size) o (by omega)
  have hl1_w : w.heap.size < w1.heap.size := by omega
  have hf1_w := fun o => hf1 (w.heap.size) o (by omega)
  have hc1_wp := fun o => hc1 (w.heap.size + 1) o (by omega)
  have hl1_wp : w.heap.size + 1 < w1.heap.size := by omega
  have hf1_wp := fun o => hf1 (w.heap.size + 1) o (by omega)
  have hc1_wpp := fun o => hc1 (w.heap.size + 1 + 1) o (by omega)
  have hl1_wpp : w.heap.size + 1 + 1 < w1.heap.size := by omega
  have hf1_wpp := fun o => hf1 (w.heap.size + 1 + 1) o (by omega)
  have hw1 : Bel w w1 := by (repeat (first | exact Below.refl _ _ | assumption | exact Bel.refl _ | refine Bel.alloc ?_ _ | refine Bel.drew ?_ | refine Bel.drewN ?_ _ | refine Bel.then_ ?_ (by assumption) | refine Bel.setCell ?_ (by first | (simp; done) | (simp; omega)) _))
  clear hc1 hf1
  obtain ⟨hcw1, hfw1, hsw1⟩ := bcell hw1
  go_wp2_with (go_in)
  all_goals
    try rw [Exit.noGoto_ret]
    go_ret2
    refine ⟨?_, by (repeat (first | exact Below.refl _ _ | assumption | exact Bel.refl _ | refine Bel.alloc ?_ _ | refine Bel.drew ?_ | refine Bel.drewN ?_ _ | refine Bel.then_ ?_ (by assumption) | refine Bel.setCell ?_ (by first | (simp; done) | (simp; omega)) _))⟩
    simp [nextS, onS, *]

set_option maxRecDepth 100000 in
set_option maxHeartbeats 1000000 in
theorem next2 (go made opn drained failed settled waits dropped swapped clear late stop : Bool) (w : World) : Calls Try.prog 14 #[.int .i64 2, .agg #[.bool go, .bool made, .bool opn, .bool drained, .bool failed, .bool settled, .bool waits, .bool dropped, .bool swapped, .bool clear, .bool late, .bool stop]] w fun e w' => e = .returned (.tuple #[.int .i64 (nextS 2 go made opn drained failed settled waits dropped swapped clear late stop), .int .i64 0]) ∧ Bel w w' := by
  have i0 := idx2
  go_enter Try.func14, Try.ntmps14
  go_wp2
  go_step3
  go_wp2_with (first | (go_at_call 35; go_in) | (go_at_call 39; go_in))
  refine (steps_any _).mono ?_
  rintro e1 w1 ⟨rfl, hb1⟩
  obtain ⟨hc1, hf1, hs1⟩ := bcell hb1
  try simp only [World.size_alloc, World.size_drew, World.size_setCell] at hs1 hc1 hf1
  have hc1_w := fun o => hc1 (w.heap.size) o (by omega)
  have hl1_w : w.heap.size < w1.heap.size := by omega
  have hf1_w := fun o => hf1 (w.heap.size) o (by omega)
  have hc1_wp := fun o => hc1 (w.heap.size + 1) o (by omega)
  have hl1_wp : w.heap.size + 1 < w1.heap.size := by omega
  have hf1_wp := fun o => hf1 (w.heap.size + 1) o (by omega)
  have hc1_wpp := fun o => hc1 (w.heap.size + 1 + 1) o (by omega)
  have hl1_wpp : w.heap.size + 1 + 1 < w1.heap.size := by omega
  have hf1_wpp := fun o => hf1 (w.heap.size + 1 + 1) o (by omega)
  have hw1 : Bel w w1 := by (repeat (first | exact Below.refl _ _ | assumption | exact Bel.refl _ | refine Bel.alloc ?_ _ | refine Bel.drew ?_ | refine Bel.drewN ?_ _ | refine Bel.then_ ?_ (by assumption) | refine Bel.setCell ?_ (by first | (simp; done) | (simp; omega)) _))
  clear hc1 hf1
  obtain ⟨hcw1, hfw1, hsw1⟩ := bcell hw1
  go_wp2_with (go_in)
  all_goals
    try rw [Exit.noGoto_ret]
    go_ret2
    refine ⟨?_, by (repeat (first | exact Below.refl _ _ | assumption | exact Bel.refl _ | refine Bel.alloc ?_ _ | refine Bel.drew ?_ | refine Bel.drewN ?_ _ | refine Bel.then_ ?_ (by assumption) | refine Bel.setCell ?_ (by first | (simp; done) | (simp; omega)) _))⟩
    simp [nextS, onS, *]

set_option maxRecDepth 100000 in
set_option maxHeartbeats 1000000 in
theorem next3 (go made opn drained failed settled waits dropped swapped clear late stop : Bool) (w : World) : Calls Try.prog 14 #[.int .i64 3, .agg #[.bool go, .bool made, .bool opn, .bool drained, .bool failed, .bool settled, .bool waits, .bool dropped, .bool swapped, .bool clear, .bool late, .bool stop]] w fun e w' => e = .returned (.tuple #[.int .i64 (nextS 3 go made opn drained failed settled waits dropped swapped clear late stop), .int .i64 0]) ∧ Bel w w' := by
  have i0 := idx3
  go_enter Try.func14, Try.ntmps14
  go_wp2
  go_step3
  go_wp2_with (first | (go_at_call 35; go_in) | (go_at_call 39; go_in))
  refine (steps_any _).mono ?_
  rintro e1 w1 ⟨rfl, hb1⟩
  obtain ⟨hc1, hf1, hs1⟩ := bcell hb1
  try simp only [World.size_alloc, World.size_drew, World.size_setCell] at hs1 hc1 hf1
  have hc1_w := fun o => hc1 (w.heap.size) o (by omega)
  have hl1_w : w.heap.size < w1.heap.size := by omega
  have hf1_w := fun o => hf1 (w.heap.size) o (by omega)
  have hc1_wp := fun o => hc1 (w.heap.size + 1) o (by omega)
  have hl1_wp : w.heap.size + 1 < w1.heap.size := by omega
  have hf1_wp := fun o => hf1 (w.heap.size + 1) o (by omega)
  have hc1_wpp := fun o => hc1 (w.heap.size + 1 + 1) o (by omega)
  have hl1_wpp : w.heap.size + 1 + 1 < w1.heap.size := by omega
  have hf1_wpp := fun o => hf1 (w.heap.size + 1 + 1) o (by omega)
  have hw1 : Bel w w1 := by (repeat (first | exact Below.refl _ _ | assumption | exact Bel.refl _ | refine Bel.alloc ?_ _ | refine Bel.drew ?_ | refine Bel.drewN ?_ _ | refine Bel.then_ ?_ (by assumption) | refine Bel.setCell ?_ (by first | (simp; done) | (simp; omega)) _))
  clear hc1 hf1
  obtain ⟨hcw1, hfw1, hsw1⟩ := bcell hw1
  go_wp2_with (go_in)
  all_goals
    try rw [Exit.noGoto_ret]
    go_ret2
    refine ⟨?_, by (repeat (first | exact Below.refl _ _ | assumption | exact Bel.refl _ | refine Bel.alloc ?_ _ | refine Bel.drew ?_ | refine Bel.drewN ?_ _ | refine Bel.then_ ?_ (by assumption) | refine Bel.setCell ?_ (by first | (simp; done) | (simp; omega)) _))⟩
    simp [nextS, onS, *]
end Go.Proofs.Ytpcgmghacalndaa
