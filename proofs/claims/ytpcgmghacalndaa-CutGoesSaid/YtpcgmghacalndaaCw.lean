/-
  The chapter's rows of package cut.
-/
import Derived.Test.YtpcgmghacalndaaCa
import Derived.Test.YtpcgmghacalndaaCb
import Derived.Test.YtpcgmghacalndaaCe
import Derived.Test.YtpcgmghacalndaaCf
import Derived.Test.YtpcgmghacalndaaCg
import Derived.Test.YtpcgmghacalndaaCi
set_option linter.unusedVariables false
set_option linter.unusedSimpArgs false
namespace Go.Proofs.Ytpcgmghacalndaa
open Go.RowKit
set_option maxRecDepth 100000 in
set_option maxHeartbeats 1000000 in
theorem cnum_any (a : Int) (w : World) : Calls Try.prog 18 #[.int .i64 a] w fun e w' => e = .returned (.int .i64 a) ∧ w = w' := by
  go_enter Try.func18, Try.ntmps18
  go_wp2
  go_ret
  exact ⟨rfl, rfl⟩
set_option maxRecDepth 100000 in
set_option maxHeartbeats 1000000 in
theorem cworks_any (w : World) : Calls Try.prog 21 #[] w fun e w' => e = .returned (.bool true) ∧ Bel w w' := by
  have v1 : nextS 3 false false false true false false false false false false false false = 4 := by decide
  have v2 : nextS 3 false false false true false false false false false false true false = 8 := by decide
  have v3 : nextS 7 false false false false false false false false true false true false = 9 := by decide
  have v4 : nextS 0 true false false false false false false false false false false true = 1 := by decide
  go_enter Try.func21, Try.ntmps21
  go_wp2_with fail
  refine (next3 _ _ _ _ _ _ _ _ _ _ _ _ _).mono ?_
  rintro e1 w1 ⟨rfl, hb1⟩
  obtain ⟨hc1, hf1, hs1⟩ := bcell hb1
  try simp only [World.size_alloc, World.size_drew, World.size_setCell] at hs1 hc1 hf1
  have hw1 : Bel w w1 := by (repeat (first | exact Below.refl _ _ | assumption | exact Bel.refl _ | refine Bel.alloc ?_ _ | refine Bel.drew ?_ | refine Bel.drewN ?_ _ | refine Bel.then_ ?_ (by assumption) | refine Bel.setCell ?_ (by first | (simp; done) | (simp; omega)) _))
  clear hc1 hf1
  obtain ⟨hcw1, hfw1, hsw1⟩ := bcell hw1
  go_wp2_with fail
  refine (next3 _ _ _ _ _ _ _ _ _ _ _ _ _).mono ?_
  rintro e2 w2 ⟨rfl, hb2⟩
  obtain ⟨hc2, hf2, hs2⟩ := bcell hb2
  try simp only [World.size_alloc, World.size_drew, World.size_setCell] at hs2 hc2 hf2
  have hw2 : Bel w w2 := by (repeat (first | exact Below.refl _ _ | assumption | exact Bel.refl _ | refine Bel.alloc ?_ _ | refine Bel.drew ?_ | refine Bel.drewN ?_ _ | refine Bel.then_ ?_ (by assumption) | refine Bel.setCell ?_ (by first | (simp; done) | (simp; omega)) _))
  clear hc2 hf2
  obtain ⟨hcw2, hfw2, hsw2⟩ := bcell hw2
  go_wp2_with fail
  refine (next7 _ _ _ _ _ _ _ _ _ _ _ _ _).mono ?_
  rintro e3 w3 ⟨rfl, hb3⟩
  obtain ⟨hc3, hf3, hs3⟩ := bcell hb3
  try simp only [World.size_alloc, World.size_drew, World.size_setCell] at hs3 hc3 hf3
  have hw3 : Bel w w3 := by (repeat (first | exact Below.refl _ _ | assumption | exact Bel.refl _ | refine Bel.alloc ?_ _ | refine Bel.drew ?_ | refine Bel.drewN ?_ _ | refine Bel.then_ ?_ (by assumption) | refine Bel.setCell ?_ (by first | (simp; done) | (simp; omega)) _))
  clear hc3 hf3
  obtain ⟨hcw3, hfw3, hsw3⟩ := bcell hw3
  go_wp2_with fail
  refine (next0 _ _ _ _ _ _ _ _ _ _ _ _ _).mono ?_
  rintro e4 w4 ⟨rfl, hb4⟩
  obtain ⟨hc4, hf4, hs4⟩ := bcell hb4
  try simp only [World.size_alloc, World.size_drew, World.size_setCell] at hs4 hc4 hf4
  have hw4 : Bel w w4 := by (repeat (first | exact Below.refl _ _ | assumption | exact Bel.refl _ | refine Bel.alloc ?_ _ | refine Bel.drew ?_ | refine Bel.drewN ?_ _ | refine Bel.then_ ?_ (by assumption) | refine Bel.setCell ?_ (by first | (simp; done) | (simp; omega)) _))
  clear hc4 hf4
  obtain ⟨hcw4, hfw4, hsw4⟩ := bcell hw4
  go_wp2_with fail
  refine (next_out 10 (by decide) _ _ _ _ _ _ _ _ _ _ _ _ _).mono ?_
  rintro e5 w5 ⟨rfl, hb5⟩
  obtain ⟨hc5, hf5, hs5⟩ := bcell hb5
  try simp only [World.size_alloc, World.size_drew, World.size_setCell] at hs5 hc5 hf5
  have hw5 : Bel w w5 := by (repeat (first | exact Below.refl _ _ | assumption | exact Bel.refl _ | refine Bel.alloc ?_ _ | refine Bel.drew ?_ | refine Bel.drewN ?_ _ | refine Bel.then_ ?_ (by assumption) | refine Bel.setCell ?_ (by first | (simp; done) | (simp; omega)) _))
  clear hc5 hf5
  obtain ⟨hcw5, hfw5, hsw5⟩ := bcell hw5
  go_wp2_with fail
  refine (name5 _).mono ?_
  rintro e6 w6 ⟨rfl, hb6⟩
  obtain ⟨hc6, hf6, hs6⟩ := bcell hb6
  try simp only [World.size_alloc, World.size_drew, World.size_setCell] at hs6 hc6 hf6
  have hw6 : Bel w w6 := by (repeat (first | exact Below.refl _ _ | assumption | exact Bel.refl _ | refine Bel.alloc ?_ _ | refine Bel.drew ?_ | refine Bel.drewN ?_ _ | refine Bel.then_ ?_ (by assumption) | refine Bel.setCell ?_ (by first | (simp; done) | (simp; omega)) _))
  clear hc6 hf6
  obtain ⟨hcw6, hfw6, hsw6⟩ := bcell hw6
  go_wp2_with (go_at_call 18; refine (cnum_any _ _).mono ?_; rintro e w' ⟨rfl, rfl⟩)
  go_wp2_with fail
  refine (blocks_any _ _).mono ?_
  rintro e7 w7 ⟨rfl, hb7⟩
  obtain ⟨hc7, hf7, hs7⟩ := bcell hb7
  try simp only [World.size_alloc, World.size_drew, World.size_setCell] at hs7 hc7 hf7
  have hw7 : Bel w w7 := by (repeat (first | exact Below.refl _ _ | assumption | exact Bel.refl _ | refine Bel.alloc ?_ _ | refine Bel.drew ?_ | refine Bel.drewN ?_ _ | refine Bel.then_ ?_ (by assumption) | refine Bel.setCell ?_ (by first | (simp; done) | (simp; omega)) _))
  clear hc7 hf7
  obtain ⟨hcw7, hfw7, hsw7⟩ := bcell hw7
  go_wp2_with (go_at_call 18; refine (cnum_any _ _).mono ?_; rintro e w' ⟨rfl, rfl⟩)
  go_ret
  exact ⟨rfl, by (repeat (first | exact Below.refl _ _ | assumption | exact Bel.refl _ | refine Bel.alloc ?_ _ | refine Bel.drew ?_ | refine Bel.drewN ?_ _ | refine Bel.then_ ?_ (by assumption) | refine Bel.setCell ?_ (by first | (simp; done) | (simp; omega)) _))⟩
end Go.Proofs.Ytpcgmghacalndaa
