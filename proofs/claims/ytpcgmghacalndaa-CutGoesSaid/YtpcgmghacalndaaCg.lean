/-
  The contracts of Name and Blocks, and of the reference's.
-/
import Derived.Test.YtpcgmghacalndaaCd
set_option linter.unusedVariables false
set_option linter.unusedSimpArgs false
namespace Go.Proofs.Ytpcgmghacalndaa
open Go.RowKit
set_option maxRecDepth 100000 in
set_option maxHeartbeats 1000000 in
theorem name0 (w : World) : Calls Try.prog 16 #[.int .i64 0] w fun e w' => e = .returned (.tuple #[.string ⟨#[110, 111, 110, 101]⟩, .int .i64 0]) ∧ Bel w w' := by
  have i0 := idx0
  have f0 := fld77
  go_enter Try.func16, Try.ntmps16
  go_wp2_with (first | (go_at_call 35; go_in) | (go_at_call 39; go_in))
  refine (steps_any _).mono ?_
  rintro e1 w1 ⟨rfl, hb1⟩
  obtain ⟨hc1, hf1, hs1⟩ := bcell hb1
  try simp only [World.size_alloc, World.size_drew, World.size_setCell] at hs1 hc1 hf1
  have hw1 : Bel w w1 := by (repeat (first | exact Below.refl _ _ | assumption | exact Bel.refl _ | refine Bel.alloc ?_ _ | refine Bel.drew ?_ | refine Bel.drewN ?_ _ | refine Bel.then_ ?_ (by assumption) | refine Bel.setCell ?_ (by first | (simp; done) | (simp; omega)) _))
  clear hc1 hf1
  obtain ⟨hcw1, hfw1, hsw1⟩ := bcell hw1
  go_wp2
  go_ret2
  exact ⟨rfl, by (repeat (first | exact Below.refl _ _ | assumption | exact Bel.refl _ | refine Bel.alloc ?_ _ | refine Bel.drew ?_ | refine Bel.drewN ?_ _ | refine Bel.then_ ?_ (by assumption) | refine Bel.setCell ?_ (by first | (simp; done) | (simp; omega)) _))⟩
set_option maxRecDepth 100000 in
set_option maxHeartbeats 1000000 in
theorem rname0 (w : World) : Calls Try.prog 17 #[.int .i64 0] w fun e w' => e = .returned (.tuple #[.string ⟨#[110, 111, 110, 101]⟩, .int .i64 0]) ∧ Bel w w' := by
  go_enter Try.func17, Try.ntmps17
  go_wp2
  go_ret2
  exact ⟨rfl, by (repeat (first | exact Below.refl _ _ | assumption | exact Bel.refl _ | refine Bel.alloc ?_ _ | refine Bel.drew ?_ | refine Bel.drewN ?_ _ | refine Bel.then_ ?_ (by assumption) | refine Bel.setCell ?_ (by first | (simp; done) | (simp; omega)) _))⟩

set_option maxRecDepth 100000 in
set_option maxHeartbeats 1000000 in
theorem name1 (w : World) : Calls Try.prog 16 #[.int .i64 1] w fun e w' => e = .returned (.tuple #[.string ⟨#[109, 97, 107, 101]⟩, .int .i64 0]) ∧ Bel w w' := by
  have i0 := idx1
  have f0 := fld77
  go_enter Try.func16, Try.ntmps16
  go_wp2_with (first | (go_at_call 35; go_in) | (go_at_call 39; go_in))
  refine (steps_any _).mono ?_
  rintro e1 w1 ⟨rfl, hb1⟩
  obtain ⟨hc1, hf1, hs1⟩ := bcell hb1
  try simp only [World.size_alloc, World.size_drew, World.size_setCell] at hs1 hc1 hf1
  have hw1 : Bel w w1 := by (repeat (first | exact Below.refl _ _ | assumption | exact Bel.refl _ | refine Bel.alloc ?_ _ | refine Bel.drew ?_ | refine Bel.drewN ?_ _ | refine Bel.then_ ?_ (by assumption) | refine Bel.setCell ?_ (by first | (simp; done) | (simp; omega)) _))
  clear hc1 hf1
  obtain ⟨hcw1, hfw1, hsw1⟩ := bcell hw1
  go_wp2
  go_ret2
  exact ⟨rfl, by (repeat (first | exact Below.refl _ _ | assumption | exact Bel.refl _ | refine Bel.alloc ?_ _ | refine Bel.drew ?_ | refine Bel.drewN ?_ _ | refine Bel.then_ ?_ (by assumption) | refine Bel.setCell ?_ (by first | (simp; done) | (simp; omega)) _))⟩
set_option maxRecDepth 100000 in
set_option maxHeartbeats 1000000 in
theorem rname1 (w : World) : Calls Try.prog 17 #[.int .i64 1] w fun e w' => e = .returned (.tuple #[.string ⟨#[109, 97, 107, 101]⟩, .int .i64 0]) ∧ Bel w w' := by
  go_enter Try.func17, Try.ntmps17
  go_wp2
  go_ret2
  exact ⟨rfl, by (repeat (first | exact Below.refl _ _ | assumption | exact Bel.refl _ | refine Bel.alloc ?_ _ | refine Bel.drew ?_ | refine Bel.drewN ?_ _ | refine Bel.then_ ?_ (by assumption) | refine Bel.setCell ?_ (by first | (simp; done) | (simp; omega)) _))⟩

set_option maxRecDepth 100000 in
set_option maxHeartbeats 1000000 in
theorem name2 (w : World) : Calls Try.prog 16 #[.int .i64 2] w fun e w' => e = .returned (.tuple #[.string ⟨#[108, 111, 99, 107]⟩, .int .i64 0]) ∧ Bel w w' := by
  have i0 := idx2
  have f0 := fld77
  go_enter Try.func16, Try.ntmps16
  go_wp2_with (first | (go_at_call 35; go_in) | (go_at_call 39; go_in))
  refine (steps_any _).mono ?_
  rintro e1 w1 ⟨rfl, hb1⟩
  obtain ⟨hc1, hf1, hs1⟩ := bcell hb1
  try simp only [World.size_alloc, World.size_drew, World.size_setCell] at hs1 hc1 hf1
  have hw1 : Bel w w1 := by (repeat (first | exact Below.refl _ _ | assumption | exact Bel.refl _ | refine Bel.alloc ?_ _ | refine Bel.drew ?_ | refine Bel.drewN ?_ _ | refine Bel.then_ ?_ (by assumption) | refine Bel.setCell ?_ (by first | (simp; done) | (simp; omega)) _))
  clear hc1 hf1
  obtain ⟨hcw1, hfw1, hsw1⟩ := bcell hw1
  go_wp2
  go_ret2
  exact ⟨rfl, by (repeat (first | exact Below.refl _ _ | assumption | exact Bel.refl _ | refine Bel.alloc ?_ _ | refine Bel.drew ?_ | refine Bel.drewN ?_ _ | refine Bel.then_ ?_ (by assumption) | refine Bel.setCell ?_ (by first | (simp; done) | (simp; omega)) _))⟩
set_option maxRecDepth 100000 in
set_option maxHeartbeats 1000000 in
theorem rname2 (w : World) : Calls Try.prog 17 #[.int .i64 2] w fun e w' => e = .returned (.tuple #[.string ⟨#[108, 111, 99, 107]⟩, .int .i64 0]) ∧ Bel w w' := by
  go_enter Try.func17, Try.ntmps17
  go_wp2
  go_ret2
  exact ⟨rfl, by (repeat (first | exact Below.refl _ _ | assumption | exact Bel.refl _ | refine Bel.alloc ?_ _ | refine Bel.drew ?_ | refine Bel.drewN ?_ _ | refine Bel.then_ ?_ (by assumption) | refine Bel.setCell ?_ (by first | (simp; done) | (simp; omega)) _))⟩

set_option maxRecDepth 100000 in
set_option maxHeartbeats 1000000 in
theorem name3 (w : World) : Calls Try.prog 16 #[.int .i64 3] w fun e w' => e = .returned (.tuple #[.string ⟨#[100, 114, 97, 105, 110]⟩, .int .i64 0]) ∧ Bel w w' := by
  have i0 := idx3
  have f0 := fld77
  go_enter Try.func16, Try.ntmps16
  go_wp2_with (first | (go_at_call 35; go_in) | (go_at_call 39; go_in))
  refine (steps_any _).mono ?_
  rintro e1 w1 ⟨rfl, hb1⟩
  obtain ⟨hc1, hf1, hs1⟩ := bcell hb1
  try simp only [World.size_alloc, World.size_drew, World.size_setCell] at hs1 hc1 hf1
  have hw1 : Bel w w1 := by (repeat (first | exact Below.refl _ _ | assumption | exact Bel.refl _ | refine Bel.alloc ?_ _ | refine Bel.drew ?_ | refine Bel.drewN ?_ _ | refine Bel.then_ ?_ (by assumption) | refine Bel.setCell ?_ (by first | (simp; done) | (simp; omega)) _))
  clear hc1 hf1
  obtain ⟨hcw1, hfw1, hsw1⟩ := bcell hw1
  go_wp2
  go_ret2
  exact ⟨rfl, by (repeat (first | exact Below.refl _ _ | assumption | exact Bel.refl _ | refine Bel.alloc ?_ _ | refine Bel.drew ?_ | refine Bel.drewN ?_ _ | refine Bel.then_ ?_ (by assumption) | refine Bel.setCell ?_ (by first | (simp; done) | (simp; omega)) _))⟩
set_option maxRecDepth 100000 in
set_option maxHeartbeats 1000000 in
theorem rname3 (w : World) : Calls Try.prog 17 #[.int .i64 3] w fun e w' => e = .returned (.tuple #[.string ⟨#[100, 114, 97, 105, 110]⟩, .int .i64 0]) ∧ Bel w w' := by
  go_enter Try.func17, Try.ntmps17
  go_wp2
  go_ret2
  exact ⟨rfl, by (repeat (first | exact Below.refl _ _ | assumption | exact Bel.refl _ | refine Bel.alloc ?_ _ | refine Bel.drew ?_ | refine Bel.drewN ?_ _ | refine Bel.then_ ?_ (by assumption) | refine Bel.setCell ?_ (by first | (simp; done) | (simp; omega)) _))⟩

set_option maxRecDepth 100000 in
set_option maxHeartbeats 1000000 in
theorem name4 (w : World) : Calls Try.prog 16 #[.int .i64 4] w fun e w' => e = .returned (.tuple #[.string ⟨#[115, 101, 116, 116, 108, 101]⟩, .int .i64 0]) ∧ Bel w w' := by
  have i0 := idx4
  have f0 := fld77
  go_enter Try.func16, Try.ntmps16
  go_wp2_with (first | (go_at_call 35; go_in) | (go_at_call 39; go_in))
  refine (steps_any _).mono ?_
  rintro e1 w1 ⟨rfl, hb1⟩
  obtain ⟨hc1, hf1, hs1⟩ := bcell hb1
  try simp only [World.size_alloc, World.size_drew, World.size_setCell] at hs1 hc1 hf1
  have hw1 : Bel w w1 := by (repeat (first | exact Below.refl _ _ | assumption | exact Bel.refl _ | refine Bel.alloc ?_ _ | refine Bel.drew ?_ | refine Bel.drewN ?_ _ | refine Bel.then_ ?_ (by assumption) | refine Bel.setCell ?_ (by first | (simp; done) | (simp; omega)) _))
  clear hc1 hf1
  obtain ⟨hcw1, hfw1, hsw1⟩ := bcell hw1
  go_wp2
  go_ret2
  exact ⟨rfl, by (repeat (first | exact Below.refl _ _ | assumption | exact Bel.refl _ | refine Bel.alloc ?_ _ | refine Bel.drew ?_ | refine Bel.drewN ?_ _ | refine Bel.then_ ?_ (by assumption) | refine Bel.setCell ?_ (by first | (simp; done) | (simp; omega)) _))⟩
set_option maxRecDepth 100000 in
set_option maxHeartbeats 1000000 in
theorem rname4 (w : World) : Calls Try.prog 17 #[.int .i64 4] w fun e w' => e = .returned (.tuple #[.string ⟨#[115, 101, 116, 116, 108, 101]⟩, .int .i64 0]) ∧ Bel w w' := by
  go_enter Try.func17, Try.ntmps17
  go_wp2
  go_ret2
  exact ⟨rfl, by (repeat (first | exact Below.refl _ _ | assumption | exact Bel.refl _ | refine Bel.alloc ?_ _ | refine Bel.drew ?_ | refine Bel.drewN ?_ _ | refine Bel.then_ ?_ (by assumption) | refine Bel.setCell ?_ (by first | (simp; done) | (simp; omega)) _))⟩

set_option maxRecDepth 100000 in
set_option maxHeartbeats 1000000 in
theorem name5 (w : World) : Calls Try.prog 16 #[.int .i64 5] w fun e w' => e = .returned (.tuple #[.string ⟨#[97, 115, 107]⟩, .int .i64 0]) ∧ Bel w w' := by
  have i0 := idx5
  have f0 := fld77
  go_enter Try.func16, Try.ntmps16
  go_wp2_with (first | (go_at_call 35; go_in) | (go_at_call 39; go_in))
  refine (steps_any _).mono ?_
  rintro e1 w1 ⟨rfl, hb1⟩
  obtain ⟨hc1, hf1, hs1⟩ := bcell hb1
  try simp only [World.size_alloc, World.size_drew, World.size_setCell] at hs1 hc1 hf1
  have hw1 : Bel w w1 := by (repeat (first | exact Below.refl _ _ | assumption | exact Bel.refl _ | refine Bel.alloc ?_ _ | refine Bel.drew ?_ | refine Bel.drewN ?_ _ | refine Bel.then_ ?_ (by assumption) | refine Bel.setCell ?_ (by first | (simp; done) | (simp; omega)) _))
  clear hc1 hf1
  obtain ⟨hcw1, hfw1, hsw1⟩ := bcell hw1
  go_wp2
  go_ret2
  exact ⟨rfl, by (repeat (first | exact Below.refl _ _ | assumption | exact Bel.refl _ | refine Bel.alloc ?_ _ | refine Bel.drew ?_ | refine Bel.drewN ?_ _ | refine Bel.then_ ?_ (by assumption) | refine Bel.setCell ?_ (by first | (simp; done) | (simp; omega)) _))⟩
set_option maxRecDepth 100000 in
set_option maxHeartbeats 1000000 in
theorem rname5 (w : World) : Calls Try.prog 17 #[.int .i64 5] w fun e w' => e = .returned (.tuple #[.string ⟨#[97, 115, 107]⟩, .int .i64 0]) ∧ Bel w w' := by
  go_enter Try.func17, Try.ntmps17
  go_wp2
  go_ret2
  exact ⟨rfl, by (repeat (first | exact Below.refl _ _ | assumption | exact Bel.refl _ | refine Bel.alloc ?_ _ | refine Bel.drew ?_ | refine Bel.drewN ?_ _ | refine Bel.then_ ?_ (by assumption) | refine Bel.setCell ?_ (by first | (simp; done) | (simp; omega)) _))⟩

set_option maxRecDepth 100000 in
set_option maxHeartbeats 1000000 in
theorem name6 (w : World) : Calls Try.prog 16 #[.int .i64 6] w fun e w' => e = .returned (.tuple #[.string ⟨#[100, 114, 111, 112]⟩, .int .i64 0]) ∧ Bel w w' := by
  have i0 := idx6
  have f0 := fld77
  go_enter Try.func16, Try.ntmps16
  go_wp2_with (first | (go_at_call 35; go_in) | (go_at_call 39; go_in))
  refine (steps_any _).mono ?_
  rintro e1 w1 ⟨rfl, hb1⟩
  obtain ⟨hc1, hf1, hs1⟩ := bcell hb1
  try simp only [World.size_alloc, World.size_drew, World.size_setCell] at hs1 hc1 hf1
  have hw1 : Bel w w1 := by (repeat (first | exact Below.refl _ _ | assumption | exact Bel.refl _ | refine Bel.alloc ?_ _ | refine Bel.drew ?_ | refine Bel.drewN ?_ _ | refine Bel.then_ ?_ (by assumption) | refine Bel.setCell ?_ (by first | (simp; done) | (simp; omega)) _))
  clear hc1 hf1
  obtain ⟨hcw1, hfw1, hsw1⟩ := bcell hw1
  go_wp2
  go_ret2
  exact ⟨rfl, by (repeat (first | exact Below.refl _ _ | assumption | exact Bel.refl _ | refine Bel.alloc ?_ _ | refine Bel.drew ?_ | refine Bel.drewN ?_ _ | refine Bel.then_ ?_ (by assumption) | refine Bel.setCell ?_ (by first | (simp; done) | (simp; omega)) _))⟩
set_option maxRecDepth 100000 in
set_option maxHeartbeats 1000000 in
theorem rname6 (w : World) : Calls Try.prog 17 #[.int .i64 6] w fun e w' => e = .returned (.tuple #[.string ⟨#[100, 114, 111, 112]⟩, .int .i64 0]) ∧ Bel w w' := by
  go_enter Try.func17, Try.ntmps17
  go_wp2
  go_ret2
  exact ⟨rfl, by (repeat (first | exact Below.refl _ _ | assumption | exact Bel.refl _ | refine Bel.alloc ?_ _ | refine Bel.drew ?_ | refine Bel.drewN ?_ _ | refine Bel.then_ ?_ (by assumption) | refine Bel.setCell ?_ (by first | (simp; done) | (simp; omega)) _))⟩

set_option maxRecDepth 100000 in
set_option maxHeartbeats 1000000 in
theorem name7 (w : World) : Calls Try.prog 16 #[.int .i64 7] w fun e w' => e = .returned (.tuple #[.string ⟨#[115, 119, 97, 112]⟩, .int .i64 0]) ∧ Bel w w' := by
  have i0 := idx7
  have f0 := fld77
  go_enter Try.func16, Try.ntmps16
  go_wp2_with (first | (go_at_call 35; go_in) | (go_at_call 39; go_in))
  refine (steps_any _).mono ?_
  rintro e1 w1 ⟨rfl, hb1⟩
  obtain ⟨hc1, hf1, hs1⟩ := bcell hb1
  try simp only [World.size_alloc, World.size_drew, World.size_setCell] at hs1 hc1 hf1
  have hw1 : Bel w w1 := by (repeat (first | exact Below.refl _ _ | assumption | exact Bel.refl _ | refine Bel.alloc ?_ _ | refine Bel.drew ?_ | refine Bel.drewN ?_ _ | refine Bel.then_ ?_ (by assumption) | refine Bel.setCell ?_ (by first | (simp; done) | (simp; omega)) _))
  clear hc1 hf1
  obtain ⟨hcw1, hfw1, hsw1⟩ := bcell hw1
  go_wp2
  go_ret2
  exact ⟨rfl, by (repeat (first | exact Below.refl _ _ | assumption | exact Bel.refl _ | refine Bel.alloc ?_ _ | refine Bel.drew ?_ | refine Bel.drewN ?_ _ | refine Bel.then_ ?_ (by assumption) | refine Bel.setCell ?_ (by first | (simp; done) | (simp; omega)) _))⟩
set_option maxRecDepth 100000 in
set_option maxHeartbeats 1000000 in
theorem rname7 (w : World) : Calls Try.prog 17 #[.int .i64 7] w fun e w' => e = .returned (.tuple #[.string ⟨#[115, 119, 97, 112]⟩, .int .i64 0]) ∧ Bel w w' := by
  go_enter Try.func17, Try.ntmps17
  go_wp2
  go_ret2
  exact ⟨rfl, by (repeat (first | exact Below.refl _ _ | assumption | exact Bel.refl _ | refine Bel.alloc ?_ _ | refine Bel.drew ?_ | refine Bel.drewN ?_ _ | refine Bel.then_ ?_ (by assumption) | refine Bel.setCell ?_ (by first | (simp; done) | (simp; omega)) _))⟩

set_option maxRecDepth 100000 in
set_option maxHeartbeats 1000000 in
theorem name8 (w : World) : Calls Try.prog 16 #[.int .i64 8] w fun e w' => e = .returned (.tuple #[.string ⟨#[98, 97, 99, 107]⟩, .int .i64 0]) ∧ Bel w w' := by
  have i0 := idx8
  have f0 := fld77
  go_enter Try.func16, Try.ntmps16
  go_wp2_with (first | (go_at_call 35; go_in) | (go_at_call 39; go_in))
  refine (steps_any _).mono ?_
  rintro e1 w1 ⟨rfl, hb1⟩
  obtain ⟨hc1, hf1, hs1⟩ := bcell hb1
  try simp only [World.size_alloc, World.size_drew, World.size_setCell] at hs1 hc1 hf1
  have hw1 : Bel w w1 := by (repeat (first | exact Below.refl _ _ | assumption | exact Bel.refl _ | refine Bel.alloc ?_ _ | refine Bel.drew ?_ | refine Bel.drewN ?_ _ | refine Bel.then_ ?_ (by assumption) | refine Bel.setCell ?_ (by first | (simp; done) | (simp; omega)) _))
  clear hc1 hf1
  obtain ⟨hcw1, hfw1, hsw1⟩ := bcell hw1
  go_wp2
  go_ret2
  exact ⟨rfl, by (repeat (first | exact Below.refl _ _ | assumption | exact Bel.refl _ | refine Bel.alloc ?_ _ | refine Bel.drew ?_ | refine Bel.drewN ?_ _ | refine Bel.then_ ?_ (by assumption) | refine Bel.setCell ?_ (by first | (simp; done) | (simp; omega)) _))⟩
set_option maxRecDepth 100000 in
set_option maxHeartbeats 1000000 in
theorem rname8 (w : World) : Calls Try.prog 17 #[.int .i64 8] w fun e w' => e = .returned (.tuple #[.string ⟨#[98, 97, 99, 107]⟩, .int .i64 0]) ∧ Bel w w' := by
  go_enter Try.func17, Try.ntmps17
  go_wp2
  go_ret2
  exact ⟨rfl, by (repeat (first | exact Below.refl _ _ | assumption | exact Bel.refl _ | refine Bel.alloc ?_ _ | refine Bel.drew ?_ | refine Bel.drewN ?_ _ | refine Bel.then_ ?_ (by assumption) | refine Bel.setCell ?_ (by first | (simp; done) | (simp; omega)) _))⟩

set_option maxRecDepth 100000 in
set_option maxHeartbeats 1000000 in
theorem name9 (w : World) : Calls Try.prog 16 #[.int .i64 9] w fun e w' => e = .returned (.tuple #[.string ⟨#[100, 111, 110, 101]⟩, .int .i64 0]) ∧ Bel w w' := by
  have i0 := idx9
  have f0 := fld77
  go_enter Try.func16, Try.ntmps16
  go_wp2_with (first | (go_at_call 35; go_in) | (go_at_call 39; go_in))
  refine (steps_any _).mono ?_
  rintro e1 w1 ⟨rfl, hb1⟩
  obtain ⟨hc1, hf1, hs1⟩ := bcell hb1
  try simp only [World.size_alloc, World.size_drew, World.size_setCell] at hs1 hc1 hf1
  have hw1 : Bel w w1 := by (repeat (first | exact Below.refl _ _ | assumption | exact Bel.refl _ | refine Bel.alloc ?_ _ | refine Bel.drew ?_ | refine Bel.drewN ?_ _ | refine Bel.then_ ?_ (by assumption) | refine Bel.setCell ?_ (by first | (simp; done) | (simp; omega)) _))
  clear hc1 hf1
  obtain ⟨hcw1, hfw1, hsw1⟩ := bcell hw1
  go_wp2
  go_ret2
  exact ⟨rfl, by (repeat (first | exact Below.refl _ _ | assumption | exact Bel.refl _ | refine Bel.alloc ?_ _ | refine Bel.drew ?_ | refine Bel.drewN ?_ _ | refine Bel.then_ ?_ (by assumption) | refine Bel.setCell ?_ (by first | (simp; done) | (simp; omega)) _))⟩
set_option maxRecDepth 100000 in
set_option maxHeartbeats 1000000 in
theorem rname9 (w : World) : Calls Try.prog 17 #[.int .i64 9] w fun e w' => e = .returned (.tuple #[.string ⟨#[100, 111, 110, 101]⟩, .int .i64 0]) ∧ Bel w w' := by
  go_enter Try.func17, Try.ntmps17
  go_wp2
  go_ret2
  exact ⟨rfl, by (repeat (first | exact Below.refl _ _ | assumption | exact Bel.refl _ | refine Bel.alloc ?_ _ | refine Bel.drew ?_ | refine Bel.drewN ?_ _ | refine Bel.then_ ?_ (by assumption) | refine Bel.setCell ?_ (by first | (simp; done) | (simp; omega)) _))⟩
set_option maxRecDepth 100000 in
set_option maxHeartbeats 1000000 in
theorem name_out (s : Int) (h : s < 0 ∨ 9 < s) (w : World) : Calls Try.prog 16 #[.int .i64 s] w fun e w' => e = .returned (.tuple #[.string ⟨#[]⟩, .int .i64 2]) ∧ Bel w w' := by
  rcases h with h | h
  · go_enter Try.func16, Try.ntmps16
    go_wp2_with (go_in)
    go_ret2
    exact ⟨rfl, by (repeat (first | exact Below.refl _ _ | assumption | exact Bel.refl _ | refine Bel.alloc ?_ _ | refine Bel.drew ?_ | refine Bel.drewN ?_ _ | refine Bel.then_ ?_ (by assumption) | refine Bel.setCell ?_ (by first | (simp; done) | (simp; omega)) _))⟩
  · have hb : decide (s ≤ 9) = false := by simp; omega
    go_enter Try.func16, Try.ntmps16
    go_wp2_with (go_in)
    go_ret2
    exact ⟨rfl, by (repeat (first | exact Below.refl _ _ | assumption | exact Bel.refl _ | refine Bel.alloc ?_ _ | refine Bel.drew ?_ | refine Bel.drewN ?_ _ | refine Bel.then_ ?_ (by assumption) | refine Bel.setCell ?_ (by first | (simp; done) | (simp; omega)) _))⟩
set_option maxRecDepth 100000 in
set_option maxHeartbeats 1000000 in
theorem rname_out (s : Int) (h : s < 0 ∨ 9 < s) (w : World) : Calls Try.prog 17 #[.int .i64 s] w fun e w' => e = .returned (.tuple #[.string ⟨#[]⟩, .int .i64 2]) ∧ Bel w w' := by
  rcases h with h | h
  · go_enter Try.func17, Try.ntmps17
    go_wp2_with (go_in)
    go_ret2
    exact ⟨rfl, by (repeat (first | exact Below.refl _ _ | assumption | exact Bel.refl _ | refine Bel.alloc ?_ _ | refine Bel.drew ?_ | refine Bel.drewN ?_ _ | refine Bel.then_ ?_ (by assumption) | refine Bel.setCell ?_ (by first | (simp; done) | (simp; omega)) _))⟩
  · have hb : decide (s ≤ 9) = false := by simp; omega
    go_enter Try.func17, Try.ntmps17
    go_wp2_with (go_in)
    go_ret2
    exact ⟨rfl, by (repeat (first | exact Below.refl _ _ | assumption | exact Bel.refl _ | refine Bel.alloc ?_ _ | refine Bel.drew ?_ | refine Bel.drewN ?_ _ | refine Bel.then_ ?_ (by assumption) | refine Bel.setCell ?_ (by first | (simp; done) | (simp; omega)) _))⟩
set_option maxRecDepth 100000 in
set_option maxHeartbeats 1000000 in
theorem blocks_any (s : Int) (w : World) : Calls Try.prog 19 #[.int .i64 s] w fun e w' => e = .returned (.bool (decide (2 ≤ s) && decide (s ≤ 7))) ∧ Bel w w' := by
  by_cases h1 : 2 ≤ s
  · by_cases h2 : s ≤ 7
    all_goals
      go_enter Try.func19, Try.ntmps19
      go_wp2_with (go_in)
      go_ret
      exact ⟨ret_bool (by simp; omega), by (repeat (first | exact Below.refl _ _ | assumption | exact Bel.refl _ | refine Bel.alloc ?_ _ | refine Bel.drew ?_ | refine Bel.drewN ?_ _ | refine Bel.then_ ?_ (by assumption) | refine Bel.setCell ?_ (by first | (simp; done) | (simp; omega)) _))⟩
  · go_enter Try.func19, Try.ntmps19
    go_wp2_with (go_in)
    go_ret
    exact ⟨ret_bool (by simp; omega), by (repeat (first | exact Below.refl _ _ | assumption | exact Bel.refl _ | refine Bel.alloc ?_ _ | refine Bel.drew ?_ | refine Bel.drewN ?_ _ | refine Bel.then_ ?_ (by assumption) | refine Bel.setCell ?_ (by first | (simp; done) | (simp; omega)) _))⟩
set_option maxRecDepth 100000 in
set_option maxHeartbeats 1000000 in
theorem rblocks_any (s : Int) (w : World) : Calls Try.prog 20 #[.int .i64 s] w fun e w' => e = .returned (.bool (decide (2 ≤ s) && decide (s ≤ 7))) ∧ Bel w w' := by
  by_cases h1 : 2 ≤ s
  · by_cases h2 : s ≤ 7
    all_goals
      go_enter Try.func20, Try.ntmps20
      go_wp2_with (go_in)
      go_ret
      exact ⟨ret_bool (by simp; omega), by (repeat (first | exact Below.refl _ _ | assumption | exact Bel.refl _ | refine Bel.alloc ?_ _ | refine Bel.drew ?_ | refine Bel.drewN ?_ _ | refine Bel.then_ ?_ (by assumption) | refine Bel.setCell ?_ (by first | (simp; done) | (simp; omega)) _))⟩
  · go_enter Try.func20, Try.ntmps20
    go_wp2_with (go_in)
    go_ret
    exact ⟨ret_bool (by simp; omega), by (repeat (first | exact Below.refl _ _ | assumption | exact Bel.refl _ | refine Bel.alloc ?_ _ | refine Bel.drew ?_ | refine Bel.drewN ?_ _ | refine Bel.then_ ?_ (by assumption) | refine Bel.setCell ?_ (by first | (simp; done) | (simp; omega)) _))⟩
end Go.Proofs.Ytpcgmghacalndaa
