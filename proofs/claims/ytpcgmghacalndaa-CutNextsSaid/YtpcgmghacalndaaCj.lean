/-
  The law CutNexts, steps 0 to 4.
-/
import Derived.Test.YtpcgmghacalndaaCw
set_option linter.unusedVariables false
set_option linter.unusedSimpArgs false
namespace Go.Proofs.Ytpcgmghacalndaa
open Go.RowKit
set_option maxRecDepth 100000 in
set_option maxHeartbeats 1000000 in
theorem nexts0 (go made opn drained failed settled waits dropped swapped clear late stop : Bool) (w : World) : Calls Try.prog 4 #[.int .i64 0, .agg #[.bool go, .bool made, .bool opn, .bool drained, .bool failed, .bool settled, .bool waits, .bool dropped, .bool swapped, .bool clear, .bool late, .bool stop]] w fun e w' => e = .returned (.bool true) ∧ Bel w w' := by
  go_enter Try.func4, Try.ntmps4
  go_wp2_with fail
  refine (next0 go made opn drained failed settled waits dropped swapped clear late stop _).mono ?_
  rintro e1 w1 ⟨rfl, hb1⟩
  obtain ⟨hc1, hf1, hs1⟩ := bcell hb1
  try simp only [World.size_alloc, World.size_drew, World.size_setCell] at hs1 hc1 hf1
  have hc1_w := fun o => hc1 (w.heap.size) o (by omega)
  have hl1_w : w.heap.size < w1.heap.size := by omega
  have hf1_w := fun o => hf1 (w.heap.size) o (by omega)
  have hw1 : Bel w w1 := by (repeat (first | exact Below.refl _ _ | assumption | exact Bel.refl _ | refine Bel.alloc ?_ _ | refine Bel.drew ?_ | refine Bel.drewN ?_ _ | refine Bel.then_ ?_ (by assumption) | refine Bel.setCell ?_ (by first | (simp; done) | (simp; omega)) _))
  clear hc1 hf1
  obtain ⟨hcw1, hfw1, hsw1⟩ := bcell hw1
  go_wp2_with fail
  refine (rnext0 go made opn drained failed settled waits dropped swapped clear late stop _).mono ?_
  rintro e2 w2 ⟨rfl, hb2⟩
  obtain ⟨hc2, hf2, hs2⟩ := bcell hb2
  try simp only [World.size_alloc, World.size_drew, World.size_setCell] at hs2 hc2 hf2
  have hc2_w := fun o => hc2 (w.heap.size) o (by omega)
  have hl2_w : w.heap.size < w2.heap.size := by omega
  have hf2_w := fun o => hf2 (w.heap.size) o (by omega)
  have hw2 : Bel w w2 := by (repeat (first | exact Below.refl _ _ | assumption | exact Bel.refl _ | refine Bel.alloc ?_ _ | refine Bel.drew ?_ | refine Bel.drewN ?_ _ | refine Bel.then_ ?_ (by assumption) | refine Bel.setCell ?_ (by first | (simp; done) | (simp; omega)) _))
  clear hc2 hf2
  obtain ⟨hcw2, hfw2, hsw2⟩ := bcell hw2
  go_wp2_with fail
  refine (name0 _).mono ?_
  rintro e3 w3 ⟨rfl, hb3⟩
  obtain ⟨hc3, hf3, hs3⟩ := bcell hb3
  try simp only [World.size_alloc, World.size_drew, World.size_setCell] at hs3 hc3 hf3
  have hc3_w := fun o => hc3 (w.heap.size) o (by omega)
  have hl3_w : w.heap.size < w3.heap.size := by omega
  have hf3_w := fun o => hf3 (w.heap.size) o (by omega)
  have hw3 : Bel w w3 := by (repeat (first | exact Below.refl _ _ | assumption | exact Bel.refl _ | refine Bel.alloc ?_ _ | refine Bel.drew ?_ | refine Bel.drewN ?_ _ | refine Bel.then_ ?_ (by assumption) | refine Bel.setCell ?_ (by first | (simp; done) | (simp; omega)) _))
  clear hc3 hf3
  obtain ⟨hcw3, hfw3, hsw3⟩ := bcell hw3
  go_wp2_with fail
  refine (rname0 _).mono ?_
  rintro e4 w4 ⟨rfl, hb4⟩
  obtain ⟨hc4, hf4, hs4⟩ := bcell hb4
  try simp only [World.size_alloc, World.size_drew, World.size_setCell] at hs4 hc4 hf4
  have hc4_w := fun o => hc4 (w.heap.size) o (by omega)
  have hl4_w : w.heap.size < w4.heap.size := by omega
  have hf4_w := fun o => hf4 (w.heap.size) o (by omega)
  have hw4 : Bel w w4 := by (repeat (first | exact Below.refl _ _ | assumption | exact Bel.refl _ | refine Bel.alloc ?_ _ | refine Bel.drew ?_ | refine Bel.drewN ?_ _ | refine Bel.then_ ?_ (by assumption) | refine Bel.setCell ?_ (by first | (simp; done) | (simp; omega)) _))
  clear hc4 hf4
  obtain ⟨hcw4, hfw4, hsw4⟩ := bcell hw4
  go_wp2_with (go_at_call 18; refine (cnum_any _ _).mono ?_; rintro e w' ⟨rfl, rfl⟩)
  go_wp2_with fail
  refine (blocks_any _ _).mono ?_
  rintro e5 w5 ⟨rfl, hb5⟩
  obtain ⟨hc5, hf5, hs5⟩ := bcell hb5
  try simp only [World.size_alloc, World.size_drew, World.size_setCell] at hs5 hc5 hf5
  have hc5_w := fun o => hc5 (w.heap.size) o (by omega)
  have hl5_w : w.heap.size < w5.heap.size := by omega
  have hf5_w := fun o => hf5 (w.heap.size) o (by omega)
  have hw5 : Bel w w5 := by (repeat (first | exact Below.refl _ _ | assumption | exact Bel.refl _ | refine Bel.alloc ?_ _ | refine Bel.drew ?_ | refine Bel.drewN ?_ _ | refine Bel.then_ ?_ (by assumption) | refine Bel.setCell ?_ (by first | (simp; done) | (simp; omega)) _))
  clear hc5 hf5
  obtain ⟨hcw5, hfw5, hsw5⟩ := bcell hw5
  go_wp2_with fail
  refine (rblocks_any _ _).mono ?_
  rintro e6 w6 ⟨rfl, hb6⟩
  obtain ⟨hc6, hf6, hs6⟩ := bcell hb6
  try simp only [World.size_alloc, World.size_drew, World.size_setCell] at hs6 hc6 hf6
  have hc6_w := fun o => hc6 (w.heap.size) o (by omega)
  have hl6_w : w.heap.size < w6.heap.size := by omega
  have hf6_w := fun o => hf6 (w.heap.size) o (by omega)
  have hw6 : Bel w w6 := by (repeat (first | exact Below.refl _ _ | assumption | exact Bel.refl _ | refine Bel.alloc ?_ _ | refine Bel.drew ?_ | refine Bel.drewN ?_ _ | refine Bel.then_ ?_ (by assumption) | refine Bel.setCell ?_ (by first | (simp; done) | (simp; omega)) _))
  clear hc6 hf6
  obtain ⟨hcw6, hfw6, hsw6⟩ := bcell hw6
  go_wp2_with (first | (go_at_call 18; refine (cnum_any _ _).mono ?_; rintro e w' ⟨rfl, rfl⟩) | (go_at_call 21; refine (cworks_any _).mono ?_; rintro e w99 ⟨rfl, hb99⟩))
  go_ret
  exact ⟨rfl, by (repeat (first | exact Below.refl _ _ | assumption | exact Bel.refl _ | refine Bel.alloc ?_ _ | refine Bel.drew ?_ | refine Bel.drewN ?_ _ | refine Bel.then_ ?_ (by assumption) | refine Bel.setCell ?_ (by first | (simp; done) | (simp; omega)) _))⟩

set_option maxRecDepth 100000 in
set_option maxHeartbeats 1000000 in
theorem nexts1 (go made opn drained failed settled waits dropped swapped clear late stop : Bool) (w : World) : Calls Try.prog 4 #[.int .i64 1, .agg #[.bool go, .bool made, .bool opn, .bool drained, .bool failed, .bool settled, .bool waits, .bool dropped, .bool swapped, .bool clear, .bool late, .bool stop]] w fun e w' => e = .returned (.bool true) ∧ Bel w w' := by
  go_enter Try.func4, Try.ntmps4
  go_wp2_with fail
  refine (next1 go made opn drained failed settled waits dropped swapped clear late stop _).mono ?_
  rintro e1 w1 ⟨rfl, hb1⟩
  obtain ⟨hc1, hf1, hs1⟩ := bcell hb1
  try simp only [World.size_alloc, World.size_drew, World.size_setCell] at hs1 hc1 hf1
  have hc1_w := fun o => hc1 (w.heap.size) o (by omega)
  have hl1_w : w.heap.size < w1.heap.size := by omega
  have hf1_w := fun o => hf1 (w.heap.size) o (by omega)
  have hw1 : Bel w w1 := by (repeat (first | exact Below.refl _ _ | assumption | exact Bel.refl _ | refine Bel.alloc ?_ _ | refine Bel.drew ?_ | refine Bel.drewN ?_ _ | refine Bel.then_ ?_ (by assumption) | refine Bel.setCell ?_ (by first | (simp; done) | (simp; omega)) _))
  clear hc1 hf1
  obtain ⟨hcw1, hfw1, hsw1⟩ := bcell hw1
  go_wp2_with fail
  refine (rnext1 go made opn drained failed settled waits dropped swapped clear late stop _).mono ?_
  rintro e2 w2 ⟨rfl, hb2⟩
  obtain ⟨hc2, hf2, hs2⟩ := bcell hb2
  try simp only [World.size_alloc, World.size_drew, World.size_setCell] at hs2 hc2 hf2
  have hc2_w := fun o => hc2 (w.heap.size) o (by omega)
  have hl2_w : w.heap.size < w2.heap.size := by omega
  have hf2_w := fun o => hf2 (w.heap.size) o (by omega)
  have hw2 : Bel w w2 := by (repeat (first | exact Below.refl _ _ | assumption | exact Bel.refl _ | refine Bel.alloc ?_ _ | refine Bel.drew ?_ | refine Bel.drewN ?_ _ | refine Bel.then_ ?_ (by assumption) | refine Bel.setCell ?_ (by first | (simp; done) | (simp; omega)) _))
  clear hc2 hf2
  obtain ⟨hcw2, hfw2, hsw2⟩ := bcell hw2
  go_wp2_with fail
  refine (name1 _).mono ?_
  rintro e3 w3 ⟨rfl, hb3⟩
  obtain ⟨hc3, hf3, hs3⟩ := bcell hb3
  try simp only [World.size_alloc, World.size_drew, World.size_setCell] at hs3 hc3 hf3
  have hc3_w := fun o => hc3 (w.heap.size) o (by omega)
  have hl3_w : w.heap.size < w3.heap.size := by omega
  have hf3_w := fun o => hf3 (w.heap.size) o (by omega)
  have hw3 : Bel w w3 := by (repeat (first | exact Below.refl _ _ | assumption | exact Bel.refl _ | refine Bel.alloc ?_ _ | refine Bel.drew ?_ | refine Bel.drewN ?_ _ | refine Bel.then_ ?_ (by assumption) | refine Bel.setCell ?_ (by first | (simp; done) | (simp; omega)) _))
  clear hc3 hf3
  obtain ⟨hcw3, hfw3, hsw3⟩ := bcell hw3
  go_wp2_with fail
  refine (rname1 _).mono ?_
  rintro e4 w4 ⟨rfl, hb4⟩
  obtain ⟨hc4, hf4, hs4⟩ := bcell hb4
  try simp only [World.size_alloc, World.size_drew, World.size_setCell] at hs4 hc4 hf4
  have hc4_w := fun o => hc4 (w.heap.size) o (by omega)
  have hl4_w : w.heap.size < w4.heap.size := by omega
  have hf4_w := fun o => hf4 (w.heap.size) o (by omega)
  have hw4 : Bel w w4 := by (repeat (first | exact Below.refl _ _ | assumption | exact Bel.refl _ | refine Bel.alloc ?_ _ | refine Bel.drew ?_ | refine Bel.drewN ?_ _ | refine Bel.then_ ?_ (by assumption) | refine Bel.setCell ?_ (by first | (simp; done) | (simp; omega)) _))
  clear hc4 hf4
  obtain ⟨hcw4, hfw4, hsw4⟩ := bcell hw4
  go_wp2_with (go_at_call 18; refine (cnum_any _ _).mono ?_; rintro e w' ⟨rfl, rfl⟩)
  go_wp2_with fail
  refine (blocks_any _ _).mono ?_
  rintro e5 w5 ⟨rfl, hb5⟩
  obtain ⟨hc5, hf5, hs5⟩ := bcell hb5
  try simp only [World.size_alloc, World.size_drew, World.size_setCell] at hs5 hc5 hf5
  have hc5_w := fun o => hc5 (w.heap.size) o (by omega)
  have hl5_w : w.heap.size < w5.heap.size := by omega
  have hf5_w := fun o => hf5 (w.heap.size) o (by omega)
  have hw5 : Bel w w5 := by (repeat (first | exact Below.refl _ _ | assumption | exact Bel.refl _ | refine Bel.alloc ?_ _ | refine Bel.drew ?_ | refine Bel.drewN ?_ _ | refine Bel.then_ ?_ (by assumption) | refine Bel.setCell ?_ (by first | (simp; done) | (simp; omega)) _))
  clear hc5 hf5
  obtain ⟨hcw5, hfw5, hsw5⟩ := bcell hw5
  go_wp2_with fail
  refine (rblocks_any _ _).mono ?_
  rintro e6 w6 ⟨rfl, hb6⟩
  obtain ⟨hc6, hf6, hs6⟩ := bcell hb6
  try simp only [World.size_alloc, World.size_drew, World.size_setCell] at hs6 hc6 hf6
  have hc6_w := fun o => hc6 (w.heap.size) o (by omega)
  have hl6_w : w.heap.size < w6.heap.size := by omega
  have hf6_w := fun o => hf6 (w.heap.size) o (by omega)
  have hw6 : Bel w w6 := by (repeat (first | exact Below.refl _ _ | assumption | exact Bel.refl _ | refine Bel.alloc ?_ _ | refine Bel.drew ?_ | refine Bel.drewN ?_ _ | refine Bel.then_ ?_ (by assumption) | refine Bel.setCell ?_ (by first | (simp; done) | (simp; omega)) _))
  clear hc6 hf6
  obtain ⟨hcw6, hfw6, hsw6⟩ := bcell hw6
  go_wp2_with (first | (go_at_call 18; refine (cnum_any _ _).mono ?_; rintro e w' ⟨rfl, rfl⟩) | (go_at_call 21; refine (cworks_any _).mono ?_; rintro e w99 ⟨rfl, hb99⟩))
  go_ret
  exact ⟨rfl, by (repeat (first | exact Below.refl _ _ | assumption | exact Bel.refl _ | refine Bel.alloc ?_ _ | refine Bel.drew ?_ | refine Bel.drewN ?_ _ | refine Bel.then_ ?_ (by assumption) | refine Bel.setCell ?_ (by first | (simp; done) | (simp; omega)) _))⟩

set_option maxRecDepth 100000 in
set_option maxHeartbeats 1000000 in
theorem nexts2 (go made opn drained failed settled waits dropped swapped clear late stop : Bool) (w : World) : Calls Try.prog 4 #[.int .i64 2, .agg #[.bool go, .bool made, .bool opn, .bool drained, .bool failed, .bool settled, .bool waits, .bool dropped, .bool swapped, .bool clear, .bool late, .bool stop]] w fun e w' => e = .returned (.bool true) ∧ Bel w w' := by
  go_enter Try.func4, Try.ntmps4
  go_wp2_with fail
  refine (next2 go made opn drained failed settled waits dropped swapped clear late stop _).mono ?_
  rintro e1 w1 ⟨rfl, hb1⟩
  obtain ⟨hc1, hf1, hs1⟩ := bcell hb1
  try simp only [World.size_alloc, World.size_drew, World.size_setCell] at hs1 hc1 hf1
  have hc1_w := fun o => hc1 (w.heap.size) o (by omega)
  have hl1_w : w.heap.size < w1.heap.size := by omega
  have hf1_w := fun o => hf1 (w.heap.size) o (by omega)
  have hw1 : Bel w w1 := by (repeat (first | exact Below.refl _ _ | assumption | exact Bel.refl _ | refine Bel.alloc ?_ _ | refine Bel.drew ?_ | refine Bel.drewN ?_ _ | refine Bel.then_ ?_ (by assumption) | refine Bel.setCell ?_ (by first | (simp; done) | (simp; omega)) _))
  clear hc1 hf1
  obtain ⟨hcw1, hfw1, hsw1⟩ := bcell hw1
  go_wp2_with fail
  refine (rnext2 go made opn drained failed settled waits dropped swapped clear late stop _).mono ?_
  rintro e2 w2 ⟨rfl, hb2⟩
  obtain ⟨hc2, hf2, hs2⟩ := bcell hb2
  try simp only [World.size_alloc, World.size_drew, World.size_setCell] at hs2 hc2 hf2
  have hc2_w := fun o => hc2 (w.heap.size) o (by omega)
  have hl2_w : w.heap.size < w2.heap.size := by omega
  have hf2_w := fun o => hf2 (w.heap.size) o (by omega)
  have hw2 : Bel w w2 := by (repeat (first | exact Below.refl _ _ | assumption | exact Bel.refl _ | refine Bel.alloc ?_ _ | refine Bel.drew ?_ | refine Bel.drewN ?_ _ | refine Bel.then_ ?_ (by assumption) | refine Bel.setCell ?_ (by first | (simp; done) | (simp; omega)) _))
  clear hc2 hf2
  obtain ⟨hcw2, hfw2, hsw2⟩ := bcell hw2
  go_wp2_with fail
  refine (name2 _).mono ?_
  rintro e3 w3 ⟨rfl, hb3⟩
  obtain ⟨hc3, hf3, hs3⟩ := bcell hb3
  try simp only [World.size_alloc, World.size_drew, World.size_setCell] at hs3 hc3 hf3
  have hc3_w := fun o => hc3 (w.heap.size) o (by omega)
  have hl3_w : w.heap.size < w3.heap.size := by omega
  have hf3_w := fun o => hf3 (w.heap.size) o (by omega)
  have hw3 : Bel w w3 := by (repeat (first | exact Below.refl _ _ | assumption | exact Bel.refl _ | refine Bel.alloc ?_ _ | refine Bel.drew ?_ | refine Bel.drewN ?_ _ | refine Bel.then_ ?_ (by assumption) | refine Bel.setCell ?_ (by first | (simp; done) | (simp; omega)) _))
  clear hc3 hf3
  obtain ⟨hcw3, hfw3, hsw3⟩ := bcell hw3
  go_wp2_with fail
  refine (rname2 _).mono ?_
  rintro e4 w4 ⟨rfl, hb4⟩
  obtain ⟨hc4, hf4, hs4⟩ := bcell hb4
  try simp only [World.size_alloc, World.size_drew, World.size_setCell] at hs4 hc4 hf4
  have hc4_w := fun o => hc4 (w.heap.size) o (by omega)
  have hl4_w : w.heap.size < w4.heap.size := by omega
  have hf4_w := fun o => hf4 (w.heap.size) o (by omega)
  have hw4 : Bel w w4 := by (repeat (first | exact Below.refl _ _ | assumption | exact Bel.refl _ | refine Bel.alloc ?_ _ | refine Bel.drew ?_ | refine Bel.drewN ?_ _ | refine Bel.then_ ?_ (by assumption) | refine Bel.setCell ?_ (by first | (simp; done) | (simp; omega)) _))
  clear hc4 hf4
  obtain ⟨hcw4, hfw4, hsw4⟩ := bcell hw4
  go_wp2_with (go_at_call 18; refine (cnum_any _ _).mono ?_; rintro e w' ⟨rfl, rfl⟩)
  go_wp2_with fail
  refine (blocks_any _ _).mono ?_
  rintro e5 w5 ⟨rfl, hb5⟩
  obtain ⟨hc5, hf5, hs5⟩ := bcell hb5
  try simp only [World.size_alloc, World.size_drew, World.size_setCell] at hs5 hc5 hf5
  have hc5_w := fun o => hc5 (w.heap.size) o (by omega)
  have hl5_w : w.heap.size < w5.heap.size := by omega
  have hf5_w := fun o => hf5 (w.heap.size) o (by omega)
  have hw5 : Bel w w5 := by (repeat (first | exact Below.refl _ _ | assumption | exact Bel.refl _ | refine Bel.alloc ?_ _ | refine Bel.drew ?_ | refine Bel.drewN ?_ _ | refine Bel.then_ ?_ (by assumption) | refine Bel.setCell ?_ (by first | (simp; done) | (simp; omega)) _))
  clear hc5 hf5
  obtain ⟨hcw5, hfw5, hsw5⟩ := bcell hw5
  go_wp2_with fail
  refine (rblocks_any _ _).mono ?_
  rintro e6 w6 ⟨rfl, hb6⟩
  obtain ⟨hc6, hf6, hs6⟩ := bcell hb6
  try simp only [World.size_alloc, World.size_drew, World.size_setCell] at hs6 hc6 hf6
  have hc6_w := fun o => hc6 (w.heap.size) o (by omega)
  have hl6_w : w.heap.size < w6.heap.size := by omega
  have hf6_w := fun o => hf6 (w.heap.size) o (by omega)
  have hw6 : Bel w w6 := by (repeat (first | exact Below.refl _ _ | assumption | exact Bel.refl _ | refine Bel.alloc ?_ _ | refine Bel.drew ?_ | refine Bel.drewN ?_ _ | refine Bel.then_ ?_ (by assumption) | refine Bel.setCell ?_ (by first | (simp; done) | (simp; omega)) _))
  clear hc6 hf6
  obtain ⟨hcw6, hfw6, hsw6⟩ := bcell hw6
  go_wp2_with (first | (go_at_call 18; refine (cnum_any _ _).mono ?_; rintro e w' ⟨rfl, rfl⟩) | (go_at_call 21; refine (cworks_any _).mono ?_; rintro e w99 ⟨rfl, hb99⟩))
  go_ret
  exact ⟨rfl, by (repeat (first | exact Below.refl _ _ | assumption | exact Bel.refl _ | refine Bel.alloc ?_ _ | refine Bel.drew ?_ | refine Bel.drewN ?_ _ | refine Bel.then_ ?_ (by assumption) | refine Bel.setCell ?_ (by first | (simp; done) | (simp; omega)) _))⟩

set_option maxRecDepth 100000 in
set_option maxHeartbeats 1000000 in
theorem nexts3 (go made opn drained failed settled waits dropped swapped clear late stop : Bool) (w : World) : Calls Try.prog 4 #[.int .i64 3, .agg #[.bool go, .bool made, .bool opn, .bool drained, .bool failed, .bool settled, .bool waits, .bool dropped, .bool swapped, .bool clear, .bool late, .bool stop]] w fun e w' => e = .returned (.bool true) ∧ Bel w w' := by
  go_enter Try.func4, Try.ntmps4
  go_wp2_with fail
  refine (next3 go made opn drained failed settled waits dropped swapped clear late stop _).mono ?_
  rintro e1 w1 ⟨rfl, hb1⟩
  obtain ⟨hc1, hf1, hs1⟩ := bcell hb1
  try simp only [World.size_alloc, World.size_drew, World.size_setCell] at hs1 hc1 hf1
  have hc1_w := fun o => hc1 (w.heap.size) o (by omega)
  have hl1_w : w.heap.size < w1.heap.size := by omega
  have hf1_w := fun o => hf1 (w.heap.size) o (by omega)
  have hw1 : Bel w w1 := by (repeat (first | exact Below.refl _ _ | assumption | exact Bel.refl _ | refine Bel.alloc ?_ _ | refine Bel.drew ?_ | refine Bel.drewN ?_ _ | refine Bel.then_ ?_ (by assumption) | refine Bel.setCell ?_ (by first | (simp; done) | (simp; omega)) _))
  clear hc1 hf1
  obtain ⟨hcw1, hfw1, hsw1⟩ := bcell hw1
  go_wp2_with fail
  refine (rnext3 go made opn drained failed settled waits dropped swapped clear late stop _).mono ?_
  rintro e2 w2 ⟨rfl, hb2⟩
  obtain ⟨hc2, hf2, hs2⟩ := bcell hb2
  try simp only [World.size_alloc, World.size_drew, World.size_setCell] at hs2 hc2 hf2
  have hc2_w := fun o => hc2 (w.heap.size) o (by omega)
  have hl2_w : w.heap.size < w2.heap.size := by omega
  have hf2_w := fun o => hf2 (w.heap.size) o (by omega)
  have hw2 : Bel w w2 := by (repeat (first | exact Below.refl _ _ | assumption | exact Bel.refl _ | refine Bel.alloc ?_ _ | refine Bel.drew ?_ | refine Bel.drewN ?_ _ | refine Bel.then_ ?_ (by assumption) | refine Bel.setCell ?_ (by first | (simp; done) | (simp; omega)) _))
  clear hc2 hf2
  obtain ⟨hcw2, hfw2, hsw2⟩ := bcell hw2
  go_wp2_with fail
  refine (name3 _).mono ?_
  rintro e3 w3 ⟨rfl, hb3⟩
  obtain ⟨hc3, hf3, hs3⟩ := bcell hb3
  try simp only [World.size_alloc, World.size_drew, World.size_setCell] at hs3 hc3 hf3
  have hc3_w := fun o => hc3 (w.heap.size) o (by omega)
  have hl3_w : w.heap.size < w3.heap.size := by omega
  have hf3_w := fun o => hf3 (w.heap.size) o (by omega)
  have hw3 : Bel w w3 := by (repeat (first | exact Below.refl _ _ | assumption | exact Bel.refl _ | refine Bel.alloc ?_ _ | refine Bel.drew ?_ | refine Bel.drewN ?_ _ | refine Bel.then_ ?_ (by assumption) | refine Bel.setCell ?_ (by first | (simp; done) | (simp; omega)) _))
  clear hc3 hf3
  obtain ⟨hcw3, hfw3, hsw3⟩ := bcell hw3
  go_wp2_with fail
  refine (rname3 _).mono ?_
  rintro e4 w4 ⟨rfl, hb4⟩
  obtain ⟨hc4, hf4, hs4⟩ := bcell hb4
  try simp only [World.size_alloc, World.size_drew, World.size_setCell] at hs4 hc4 hf4
  have hc4_w := fun o => hc4 (w.heap.size) o (by omega)
  have hl4_w : w.heap.size < w4.heap.size := by omega
  have hf4_w := fun o => hf4 (w.heap.size) o (by omega)
  have hw4 : Bel w w4 := by (repeat (first | exact Below.refl _ _ | assumption | exact Bel.refl _ | refine Bel.alloc ?_ _ | refine Bel.drew ?_ | refine Bel.drewN ?_ _ | refine Bel.then_ ?_ (by assumption) | refine Bel.setCell ?_ (by first | (simp; done) | (simp; omega)) _))
  clear hc4 hf4
  obtain ⟨hcw4, hfw4, hsw4⟩ := bcell hw4
  go_wp2_with (go_at_call 18; refine (cnum_any _ _).mono ?_; rintro e w' ⟨rfl, rfl⟩)
  go_wp2_with fail
  refine (blocks_any _ _).mono ?_
  rintro e5 w5 ⟨rfl, hb5⟩
  obtain ⟨hc5, hf5, hs5⟩ := bcell hb5
  try simp only [World.size_alloc, World.size_drew, World.size_setCell] at hs5 hc5 hf5
  have hc5_w := fun o => hc5 (w.heap.size) o (by omega)
  have hl5_w : w.heap.size < w5.heap.size := by omega
  have hf5_w := fun o => hf5 (w.heap.size) o (by omega)
  have hw5 : Bel w w5 := by (repeat (first | exact Below.refl _ _ | assumption | exact Bel.refl _ | refine Bel.alloc ?_ _ | refine Bel.drew ?_ | refine Bel.drewN ?_ _ | refine Bel.then_ ?_ (by assumption) | refine Bel.setCell ?_ (by first | (simp; done) | (simp; omega)) _))
  clear hc5 hf5
  obtain ⟨hcw5, hfw5, hsw5⟩ := bcell hw5
  go_wp2_with fail
  refine (rblocks_any _ _).mono ?_
  rintro e6 w6 ⟨rfl, hb6⟩
  obtain ⟨hc6, hf6, hs6⟩ := bcell hb6
  try simp only [World.size_alloc, World.size_drew, World.size_setCell] at hs6 hc6 hf6
  have hc6_w := fun o => hc6 (w.heap.size) o (by omega)
  have hl6_w : w.heap.size < w6.heap.size := by omega
  have hf6_w := fun o => hf6 (w.heap.size) o (by omega)
  have hw6 : Bel w w6 := by (repeat (first | exact Below.refl _ _ | assumption | exact Bel.refl _ | refine Bel.alloc ?_ _ | refine Bel.drew ?_ | refine Bel.drewN ?_ _ | refine Bel.then_ ?_ (by assumption) | refine Bel.setCell ?_ (by first | (simp; done) | (simp; omega)) _))
  clear hc6 hf6
  obtain ⟨hcw6, hfw6, hsw6⟩ := bcell hw6
  go_wp2_with (first | (go_at_call 18; refine (cnum_any _ _).mono ?_; rintro e w' ⟨rfl, rfl⟩) | (go_at_call 21; refine (cworks_any _).mono ?_; rintro e w99 ⟨rfl, hb99⟩))
  go_ret
  exact ⟨rfl, by (repeat (first | exact Below.refl _ _ | assumption | exact Bel.refl _ | refine Bel.alloc ?_ _ | refine Bel.drew ?_ | refine Bel.drewN ?_ _ | refine Bel.then_ ?_ (by assumption) | refine Bel.setCell ?_ (by first | (simp; done) | (simp; omega)) _))⟩

set_option maxRecDepth 100000 in
set_option maxHeartbeats 1000000 in
theorem nexts4 (go made opn drained failed settled waits dropped swapped clear late stop : Bool) (w : World) : Calls Try.prog 4 #[.int .i64 4, .agg #[.bool go, .bool made, .bool opn, .bool drained, .bool failed, .bool settled, .bool waits, .bool dropped, .bool swapped, .bool clear, .bool late, .bool stop]] w fun e w' => e = .returned (.bool true) ∧ Bel w w' := by
  go_enter Try.func4, Try.ntmps4
  go_wp2_with fail
  refine (next4 go made opn drained failed settled waits dropped swapped clear late stop _).mono ?_
  rintro e1 w1 ⟨rfl, hb1⟩
  obtain ⟨hc1, hf1, hs1⟩ := bcell hb1
  try simp only [World.size_alloc, World.size_drew, World.size_setCell] at hs1 hc1 hf1
  have hc1_w := fun o => hc1 (w.heap.size) o (by omega)
  have hl1_w : w.heap.size < w1.heap.size := by omega
  have hf1_w := fun o => hf1 (w.heap.size) o (by omega)
  have hw1 : Bel w w1 := by (repeat (first | exact Below.refl _ _ | assumption | exact Bel.refl _ | refine Bel.alloc ?_ _ | refine Bel.drew ?_ | refine Bel.drewN ?_ _ | refine Bel.then_ ?_ (by assumption) | refine Bel.setCell ?_ (by first | (simp; done) | (simp; omega)) _))
  clear hc1 hf1
  obtain ⟨hcw1, hfw1, hsw1⟩ := bcell hw1
  go_wp2_with fail
  refine (rnext4 go made opn drained failed settled waits dropped swapped clear late stop _).mono ?_
  rintro e2 w2 ⟨rfl, hb2⟩
  obtain ⟨hc2, hf2, hs2⟩ := bcell hb2
  try simp only [World.size_alloc, World.size_drew, World.size_setCell] at hs2 hc2 hf2
  have hc2_w := fun o => hc2 (w.heap.size) o (by omega)
  have hl2_w : w.heap.size < w2.heap.size := by omega
  have hf2_w := fun o => hf2 (w.heap.size) o (by omega)
  have hw2 : Bel w w2 := by (repeat (first | exact Below.refl _ _ | assumption | exact Bel.refl _ | refine Bel.alloc ?_ _ | refine Bel.drew ?_ | refine Bel.drewN ?_ _ | refine Bel.then_ ?_ (by assumption) | refine Bel.setCell ?_ (by first | (simp; done) | (simp; omega)) _))
  clear hc2 hf2
  obtain ⟨hcw2, hfw2, hsw2⟩ := bcell hw2
  go_wp2_with fail
  refine (name4 _).mono ?_
  rintro e3 w3 ⟨rfl, hb3⟩
  obtain ⟨hc3, hf3, hs3⟩ := bcell hb3
  try simp only [World.size_alloc, World.size_drew, World.size_setCell] at hs3 hc3 hf3
  have hc3_w := fun o => hc3 (w.heap.size) o (by omega)
  have hl3_w : w.heap.size < w3.heap.size := by omega
  have hf3_w := fun o => hf3 (w.heap.size) o (by omega)
  have hw3 : Bel w w3 := by (repeat (first | exact Below.refl _ _ | assumption | exact Bel.refl _ | refine Bel.alloc ?_ _ | refine Bel.drew ?_ | refine Bel.drewN ?_ _ | refine Bel.then_ ?_ (by assumption) | refine Bel.setCell ?_ (by first | (simp; done) | (simp; omega)) _))
  clear hc3 hf3
  obtain ⟨hcw3, hfw3, hsw3⟩ := bcell hw3
  go_wp2_with fail
  refine (rname4 _).mono ?_
  rintro e4 w4 ⟨rfl, hb4⟩
  obtain ⟨hc4, hf4, hs4⟩ := bcell hb4
  try simp only [World.size_alloc, World.size_drew, World.size_setCell] at hs4 hc4 hf4
  have hc4_w := fun o => hc4 (w.heap.size) o (by omega)
  have hl4_w : w.heap.size < w4.heap.size := by omega
  have hf4_w := fun o => hf4 (w.heap.size) o (by omega)
  have hw4 : Bel w w4 := by (repeat (first | exact Below.refl _ _ | assumption | exact Bel.refl _ | refine Bel.alloc ?_ _ | refine Bel.drew ?_ | refine Bel.drewN ?_ _ | refine Bel.then_ ?_ (by assumption) | refine Bel.setCell ?_ (by first | (simp; done) | (simp; omega)) _))
  clear hc4 hf4
  obtain ⟨hcw4, hfw4, hsw4⟩ := bcell hw4
  go_wp2_with (go_at_call 18; refine (cnum_any _ _).mono ?_; rintro e w' ⟨rfl, rfl⟩)
  go_wp2_with fail
  refine (blocks_any _ _).mono ?_
  rintro e5 w5 ⟨rfl, hb5⟩
  obtain ⟨hc5, hf5, hs5⟩ := bcell hb5
  try simp only [World.size_alloc, World.size_drew, World.size_setCell] at hs5 hc5 hf5
  have hc5_w := fun o => hc5 (w.heap.size) o (by omega)
  have hl5_w : w.heap.size < w5.heap.size := by omega
  have hf5_w := fun o => hf5 (w.heap.size) o (by omega)
  have hw5 : Bel w w5 := by (repeat (first | exact Below.refl _ _ | assumption | exact Bel.refl _ | refine Bel.alloc ?_ _ | refine Bel.drew ?_ | refine Bel.drewN ?_ _ | refine Bel.then_ ?_ (by assumption) | refine Bel.setCell ?_ (by first | (simp; done) | (simp; omega)) _))
  clear hc5 hf5
  obtain ⟨hcw5, hfw5, hsw5⟩ := bcell hw5
  go_wp2_with fail
  refine (rblocks_any _ _).mono ?_
  rintro e6 w6 ⟨rfl, hb6⟩
  obtain ⟨hc6, hf6, hs6⟩ := bcell hb6
  try simp only [World.size_alloc, World.size_drew, World.size_setCell] at hs6 hc6 hf6
  have hc6_w := fun o => hc6 (w.heap.size) o (by omega)
  have hl6_w : w.heap.size < w6.heap.size := by omega
  have hf6_w := fun o => hf6 (w.heap.size) o (by omega)
  have hw6 : Bel w w6 := by (repeat (first | exact Below.refl _ _ | assumption | exact Bel.refl _ | refine Bel.alloc ?_ _ | refine Bel.drew ?_ | refine Bel.drewN ?_ _ | refine Bel.then_ ?_ (by assumption) | refine Bel.setCell ?_ (by first | (simp; done) | (simp; omega)) _))
  clear hc6 hf6
  obtain ⟨hcw6, hfw6, hsw6⟩ := bcell hw6
  go_wp2_with (first | (go_at_call 18; refine (cnum_any _ _).mono ?_; rintro e w' ⟨rfl, rfl⟩) | (go_at_call 21; refine (cworks_any _).mono ?_; rintro e w99 ⟨rfl, hb99⟩))
  go_ret
  exact ⟨rfl, by (repeat (first | exact Below.refl _ _ | assumption | exact Bel.refl _ | refine Bel.alloc ?_ _ | refine Bel.drew ?_ | refine Bel.drewN ?_ _ | refine Bel.then_ ?_ (by assumption) | refine Bel.setCell ?_ (by first | (simp; done) | (simp; omega)) _))⟩
end Go.Proofs.Ytpcgmghacalndaa
