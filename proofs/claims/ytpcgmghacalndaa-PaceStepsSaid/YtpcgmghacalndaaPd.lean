/-
  The chapter's rows (works); the law PaceHeld's walk.
-/
import Derived.Test.YtpcgmghacalndaaPc
set_option linter.unusedVariables false
set_option linter.unusedSimpArgs false
namespace Go.Proofs.Ytpcgmghacalndaa
open Go.RowKit

set_option maxRecDepth 100000 in
set_option maxHeartbeats 2000000 in
theorem num_any (a : Int) (w : World) : Calls Try.prog 12 #[.int .i64 a] w fun e w' => e = .returned (.int .i64 a) ∧ w = w' := by
  go_enter Try.func12, Try.ntmps12
  go_wp2
  go_ret
  exact ⟨rfl, rfl⟩
set_option maxRecDepth 100000 in
set_option maxHeartbeats 2000000 in
theorem works_any (w : World) : Calls Try.prog 13 #[] w fun e' w' => e' = .returned (.bool true) ∧ Bel w w' := by
  go_enter Try.func13, Try.ntmps13
  go_wp2_with fail
  refine (lag_yes _ _ _ _ (by decide)).mono ?_
  rintro e1 w1 ⟨rfl, hb1⟩
  obtain ⟨hc1, hf1, hs1⟩ := bcell hb1
  try simp only [World.size_alloc, World.size_drew, World.size_setCell] at hs1 hc1 hf1
  have hc1_w := fun o => hc1 (w.heap.size) o (by omega)
  have hl1_w : w.heap.size < w1.heap.size := by omega
  have hf1_w := fun o => hf1 (w.heap.size) o (by omega)
  have hw1 : Bel w w1 := by (repeat (first | exact Below.refl _ _ | assumption | exact Bel.refl _ | refine Bel.alloc ?_ _ | refine Bel.drew ?_ | refine Bel.drewN ?_ _ | refine Bel.then_ ?_ (by assumption) | refine Bel.setCell ?_ (by first | (simp; done) | (simp; omega)) _))
  clear hc1 hf1
  obtain ⟨hcw1, hfw1, hsw1⟩ := bcell hw1
  go_wp2_with fail
  refine (holds_yes _ _ _ _ _ _ _ _ (by decide) (by decide)).mono ?_
  rintro e2 w2 ⟨rfl, hb2⟩
  obtain ⟨hc2, hf2, hs2⟩ := bcell hb2
  try simp only [World.size_alloc, World.size_drew, World.size_setCell] at hs2 hc2 hf2
  have hc2_w := fun o => hc2 (w.heap.size) o (by omega)
  have hl2_w : w.heap.size < w2.heap.size := by omega
  have hf2_w := fun o => hf2 (w.heap.size) o (by omega)
  have hw2 : Bel w w2 := by (repeat (first | exact Below.refl _ _ | assumption | exact Bel.refl _ | refine Bel.alloc ?_ _ | refine Bel.drew ?_ | refine Bel.drewN ?_ _ | refine Bel.then_ ?_ (by assumption) | refine Bel.setCell ?_ (by first | (simp; done) | (simp; omega)) _))
  clear hc2 hf2
  obtain ⟨hcw2, hfw2, hsw2⟩ := bcell hw2
  go_wp2_with fail
  refine (holds_yes _ _ _ _ _ _ _ _ (by decide) (by decide)).mono ?_
  rintro e3 w3 ⟨rfl, hb3⟩
  obtain ⟨hc3, hf3, hs3⟩ := bcell hb3
  try simp only [World.size_alloc, World.size_drew, World.size_setCell] at hs3 hc3 hf3
  have hc3_w := fun o => hc3 (w.heap.size) o (by omega)
  have hl3_w : w.heap.size < w3.heap.size := by omega
  have hf3_w := fun o => hf3 (w.heap.size) o (by omega)
  have hw3 : Bel w w3 := by (repeat (first | exact Below.refl _ _ | assumption | exact Bel.refl _ | refine Bel.alloc ?_ _ | refine Bel.drew ?_ | refine Bel.drewN ?_ _ | refine Bel.then_ ?_ (by assumption) | refine Bel.setCell ?_ (by first | (simp; done) | (simp; omega)) _))
  clear hc3 hf3
  obtain ⟨hcw3, hfw3, hsw3⟩ := bcell hw3
  go_wp2_with fail
  refine (holds_yes _ _ _ _ _ _ _ _ (by decide) (by decide)).mono ?_
  rintro e4 w4 ⟨rfl, hb4⟩
  obtain ⟨hc4, hf4, hs4⟩ := bcell hb4
  try simp only [World.size_alloc, World.size_drew, World.size_setCell] at hs4 hc4 hf4
  have hc4_w := fun o => hc4 (w.heap.size) o (by omega)
  have hl4_w : w.heap.size < w4.heap.size := by omega
  have hf4_w := fun o => hf4 (w.heap.size) o (by omega)
  have hw4 : Bel w w4 := by (repeat (first | exact Below.refl _ _ | assumption | exact Bel.refl _ | refine Bel.alloc ?_ _ | refine Bel.drew ?_ | refine Bel.drewN ?_ _ | refine Bel.then_ ?_ (by assumption) | refine Bel.setCell ?_ (by first | (simp; done) | (simp; omega)) _))
  clear hc4 hf4
  obtain ⟨hcw4, hfw4, hsw4⟩ := bcell hw4
  go_wp2_with fail
  refine (send_yes _ _ _ _ (by decide)).mono ?_
  rintro e5 w5 ⟨rfl, hb5⟩
  obtain ⟨hc5, hf5, hs5⟩ := bcell hb5
  try simp only [World.size_alloc, World.size_drew, World.size_setCell] at hs5 hc5 hf5
  have hc5_w := fun o => hc5 (w.heap.size) o (by omega)
  have hl5_w : w.heap.size < w5.heap.size := by omega
  have hf5_w := fun o => hf5 (w.heap.size) o (by omega)
  have hw5 : Bel w w5 := by (repeat (first | exact Below.refl _ _ | assumption | exact Bel.refl _ | refine Bel.alloc ?_ _ | refine Bel.drew ?_ | refine Bel.drewN ?_ _ | refine Bel.then_ ?_ (by assumption) | refine Bel.setCell ?_ (by first | (simp; done) | (simp; omega)) _))
  clear hc5 hf5
  obtain ⟨hcw5, hfw5, hsw5⟩ := bcell hw5
  go_wp2_with fail
  refine (see_yes _ _ _ _ _ (by decide) (by decide) (by decide)).mono ?_
  rintro e6 w6 ⟨rfl, hb6⟩
  obtain ⟨hc6, hf6, hs6⟩ := bcell hb6
  try simp only [World.size_alloc, World.size_drew, World.size_setCell] at hs6 hc6 hf6
  have hc6_w := fun o => hc6 (w.heap.size) o (by omega)
  have hl6_w : w.heap.size < w6.heap.size := by omega
  have hf6_w := fun o => hf6 (w.heap.size) o (by omega)
  have hc6_w5 := fun o => hc6 (w5.heap.size) o (by omega)
  have hl6_w5 : w5.heap.size < w6.heap.size := by omega
  have hf6_w5 := fun o => hf6 (w5.heap.size) o (by omega)
  have hw6 : Bel w w6 := by (repeat (first | exact Below.refl _ _ | assumption | exact Bel.refl _ | refine Bel.alloc ?_ _ | refine Bel.drew ?_ | refine Bel.drewN ?_ _ | refine Bel.then_ ?_ (by assumption) | refine Bel.setCell ?_ (by first | (simp; done) | (simp; omega)) _))
  clear hc6 hf6
  obtain ⟨hcw6, hfw6, hsw6⟩ := bcell hw6
  go_wp2_with fail
  refine (see_yes _ _ _ _ _ (by decide) (by decide) (by decide)).mono ?_
  rintro e7 w7 ⟨rfl, hb7⟩
  obtain ⟨hc7, hf7, hs7⟩ := bcell hb7
  try simp only [World.size_alloc, World.size_drew, World.size_setCell] at hs7 hc7 hf7
  have hc7_w := fun o => hc7 (w.heap.size) o (by omega)
  have hl7_w : w.heap.size < w7.heap.size := by omega
  have hf7_w := fun o => hf7 (w.heap.size) o (by omega)
  have hc7_w5 := fun o => hc7 (w5.heap.size) o (by omega)
  have hl7_w5 : w5.heap.size < w7.heap.size := by omega
  have hf7_w5 := fun o => hf7 (w5.heap.size) o (by omega)
  have hc7_w6 := fun o => hc7 (w6.heap.size) o (by omega)
  have hl7_w6 : w6.heap.size < w7.heap.size := by omega
  have hf7_w6 := fun o => hf7 (w6.heap.size) o (by omega)
  have hw7 : Bel w w7 := by (repeat (first | exact Below.refl _ _ | assumption | exact Bel.refl _ | refine Bel.alloc ?_ _ | refine Bel.drew ?_ | refine Bel.drewN ?_ _ | refine Bel.then_ ?_ (by assumption) | refine Bel.setCell ?_ (by first | (simp; done) | (simp; omega)) _))
  clear hc7 hf7
  obtain ⟨hcw7, hfw7, hsw7⟩ := bcell hw7
  go_wp2_with fail
  refine (see_late _ _ _ _ _ (by decide) (by decide) (by decide)).mono ?_
  rintro e8 w8 ⟨rfl, hb8⟩
  obtain ⟨hc8, hf8, hs8⟩ := bcell hb8
  try simp only [World.size_alloc, World.size_drew, World.size_setCell] at hs8 hc8 hf8
  have hc8_w := fun o => hc8 (w.heap.size) o (by omega)
  have hl8_w : w.heap.size < w8.heap.size := by omega
  have hf8_w := fun o => hf8 (w.heap.size) o (by omega)
  have hc8_w5 := fun o => hc8 (w5.heap.size) o (by omega)
  have hl8_w5 : w5.heap.size < w8.heap.size := by omega
  have hf8_w5 := fun o => hf8 (w5.heap.size) o (by omega)
  have hc8_w6 := fun o => hc8 (w6.heap.size) o (by omega)
  have hl8_w6 : w6.heap.size < w8.heap.size := by omega
  have hf8_w6 := fun o => hf8 (w6.heap.size) o (by omega)
  have hc8_w7 := fun o => hc8 (w7.heap.size) o (by omega)
  have hl8_w7 : w7.heap.size < w8.heap.size := by omega
  have hf8_w7 := fun o => hf8 (w7.heap.size) o (by omega)
  have hw8 : Bel w w8 := by (repeat (first | exact Below.refl _ _ | assumption | exact Bel.refl _ | refine Bel.alloc ?_ _ | refine Bel.drew ?_ | refine Bel.drewN ?_ _ | refine Bel.then_ ?_ (by assumption) | refine Bel.setCell ?_ (by first | (simp; done) | (simp; omega)) _))
  clear hc8 hf8
  obtain ⟨hcw8, hfw8, hsw8⟩ := bcell hw8
  go_wp2_with (first | (go_at_call 12; refine (num_any _ _).mono ?_; rintro e w' ⟨rfl, rfl⟩) | fail)
  go_ret
  exact ⟨rfl, by (repeat (first | exact Below.refl _ _ | assumption | exact Bel.refl _ | refine Bel.alloc ?_ _ | refine Bel.drew ?_ | refine Bel.drewN ?_ _ | refine Bel.then_ ?_ (by assumption) | refine Bel.setCell ?_ (by first | (simp; done) | (simp; omega)) _))⟩

set_option maxRecDepth 100000 in
set_option maxHeartbeats 1000000 in
theorem held_any (n s e limit : Int) (a b c : Bool) (w : World) : Calls Try.prog 3 #[.agg #[.int .i64 n, .int .i64 s, .int .i64 e], .int .i64 limit, .agg #[.bool a, .bool b, .bool c]] w fun e' w' => e' = .returned (.bool true) ∧ Bel w w' := by
  by_cases h : okB n s e = true
  · by_cases hl : 0 ≤ limit
    · have H := Lib.hid h
      clear h
      go_enter Try.func3, Try.ntmps3
      go_wp2_with fail
      refine (lag_yes _ _ _ _ H.out).mono ?_
      rintro e1 w1 ⟨rfl, hb1⟩
      obtain ⟨hc1, hf1, hs1⟩ := bcell hb1
      try simp only [World.size_alloc, World.size_drew, World.size_setCell] at hs1 hc1 hf1
      have hc1_w := fun o => hc1 (w.heap.size) o (by omega)
      have hl1_w : w.heap.size < w1.heap.size := by omega
      have hf1_w := fun o => hf1 (w.heap.size) o (by omega)
      have hc1_wp := fun o => hc1 (w.heap.size + 1) o (by omega)
      have hl1_wp : w.heap.size + 1 < w1.heap.size := by omega
      have hf1_wp := fun o => hf1 (w.heap.size + 1) o (by omega)
      have hw1 : Bel w w1 := by (repeat (first | exact Below.refl _ _ | assumption | exact Bel.refl _ | refine Bel.alloc ?_ _ | refine Bel.drew ?_ | refine Bel.drewN ?_ _ | refine Bel.then_ ?_ (by assumption) | refine Bel.setCell ?_ (by first | (simp; done) | (simp; omega)) _))
      clear hc1 hf1
      obtain ⟨hcw1, hfw1, hsw1⟩ := bcell hw1
      go_wp2_with fail
      refine (rlag_yes _ _ _ _ H.out).mono ?_
      rintro e2 w2 ⟨rfl, hb2⟩
      obtain ⟨hc2, hf2, hs2⟩ := bcell hb2
      try simp only [World.size_alloc, World.size_drew, World.size_setCell] at hs2 hc2 hf2
      have hc2_w := fun o => hc2 (w.heap.size) o (by omega)
      have hl2_w : w.heap.size < w2.heap.size := by omega
      have hf2_w := fun o => hf2 (w.heap.size) o (by omega)
      have hc2_wp := fun o => hc2 (w.heap.size + 1) o (by omega)
      have hl2_wp : w.heap.size + 1 < w2.heap.size := by omega
      have hf2_wp := fun o => hf2 (w.heap.size + 1) o (by omega)
      have hw2 : Bel w w2 := by (repeat (first | exact Below.refl _ _ | assumption | exact Bel.refl _ | refine Bel.alloc ?_ _ | refine Bel.drew ?_ | refine Bel.drewN ?_ _ | refine Bel.then_ ?_ (by assumption) | refine Bel.setCell ?_ (by first | (simp; done) | (simp; omega)) _))
      clear hc2 hf2
      obtain ⟨hcw2, hfw2, hsw2⟩ := bcell hw2
      go_wp2_with fail
      refine (holds_yes _ _ _ _ _ _ _ _ H.out hl).mono ?_
      rintro e3 w3 ⟨rfl, hb3⟩
      obtain ⟨hc3, hf3, hs3⟩ := bcell hb3
      try simp only [World.size_alloc, World.size_drew, World.size_setCell] at hs3 hc3 hf3
      have hc3_w := fun o => hc3 (w.heap.size) o (by omega)
      have hl3_w : w.heap.size < w3.heap.size := by omega
      have hf3_w := fun o => hf3 (w.heap.size) o (by omega)
      have hc3_wp := fun o => hc3 (w.heap.size + 1) o (by omega)
      have hl3_wp : w.heap.size + 1 < w3.heap.size := by omega
      have hf3_wp := fun o => hf3 (w.heap.size + 1) o (by omega)
      have hw3 : Bel w w3 := by (repeat (first | exact Below.refl _ _ | assumption | exact Bel.refl _ | refine Bel.alloc ?_ _ | refine Bel.drew ?_ | refine Bel.drewN ?_ _ | refine Bel.then_ ?_ (by assumption) | refine Bel.setCell ?_ (by first | (simp; done) | (simp; omega)) _))
      clear hc3 hf3
      obtain ⟨hcw3, hfw3, hsw3⟩ := bcell hw3
      go_wp2_with fail
      refine (rholds_yes _ _ _ _ _ _ _ _ H.out hl).mono ?_
      rintro e4 w4 ⟨rfl, hb4⟩
      obtain ⟨hc4, hf4, hs4⟩ := bcell hb4
      try simp only [World.size_alloc, World.size_drew, World.size_setCell] at hs4 hc4 hf4
      have hc4_w := fun o => hc4 (w.heap.size) o (by omega)
      have hl4_w : w.heap.size < w4.heap.size := by omega
      have hf4_w := fun o => hf4 (w.heap.size) o (by omega)
      have hc4_wp := fun o => hc4 (w.heap.size + 1) o (by omega)
      have hl4_wp : w.heap.size + 1 < w4.heap.size := by omega
      have hf4_wp := fun o => hf4 (w.heap.size + 1) o (by omega)
      have hw4 : Bel w w4 := by (repeat (first | exact Below.refl _ _ | assumption | exact Bel.refl _ | refine Bel.alloc ?_ _ | refine Bel.drew ?_ | refine Bel.drewN ?_ _ | refine Bel.then_ ?_ (by assumption) | refine Bel.setCell ?_ (by first | (simp; done) | (simp; omega)) _))
      clear hc4 hf4
      obtain ⟨hcw4, hfw4, hsw4⟩ := bcell hw4
      go_wp2_with (first | (go_at_call 12; refine (num_any _ _).mono ?_; rintro e w' ⟨rfl, rfl⟩) | (go_at_call 13; refine (works_any _).mono ?_; rintro e w99 ⟨rfl, hb99⟩))
      go_ret
      exact ⟨rfl, by (repeat (first | exact Below.refl _ _ | assumption | exact Bel.refl _ | refine Bel.alloc ?_ _ | refine Bel.drew ?_ | refine Bel.drewN ?_ _ | refine Bel.then_ ?_ (by assumption) | refine Bel.setCell ?_ (by first | (simp; done) | (simp; omega)) _))⟩
    · have H := Lib.hid h
      clear h
      go_enter Try.func3, Try.ntmps3
      go_wp2_with fail
      refine (lag_yes _ _ _ _ H.out).mono ?_
      rintro e5 w5 ⟨rfl, hb5⟩
      obtain ⟨hc5, hf5, hs5⟩ := bcell hb5
      try simp only [World.size_alloc, World.size_drew, World.size_setCell] at hs5 hc5 hf5
      have hc5_w := fun o => hc5 (w.heap.size) o (by omega)
      have hl5_w : w.heap.size < w5.heap.size := by omega
      have hf5_w := fun o => hf5 (w.heap.size) o (by omega)
      have hc5_wp := fun o => hc5 (w.heap.size + 1) o (by omega)
      have hl5_wp : w.heap.size + 1 < w5.heap.size := by omega
      have hf5_wp := fun o => hf5 (w.heap.size + 1) o (by omega)
      have hw5 : Bel w w5 := by (repeat (first | exact Below.refl _ _ | assumption | exact Bel.refl _ | refine Bel.alloc ?_ _ | refine Bel.drew ?_ | refine Bel.drewN ?_ _ | refine Bel.then_ ?_ (by assumption) | refine Bel.setCell ?_ (by first | (simp; done) | (simp; omega)) _))
      clear hc5 hf5
      obtain ⟨hcw5, hfw5, hsw5⟩ := bcell hw5
      go_wp2_with fail
      refine (rlag_yes _ _ _ _ H.out).mono ?_
      rintro e6 w6 ⟨rfl, hb6⟩
      obtain ⟨hc6, hf6, hs6⟩ := bcell hb6
      try simp only [World.size_alloc, World.size_drew, World.size_setCell] at hs6 hc6 hf6
      have hc6_w := fun o => hc6 (w.heap.size) o (by omega)
      have hl6_w : w.heap.size < w6.heap.size := by omega
      have hf6_w := fun o => hf6 (w.heap.size) o (by omega)
      have hc6_wp := fun o => hc6 (w.heap.size + 1) o (by omega)
      have hl6_wp : w.heap.size + 1 < w6.heap.size := by omega
      have hf6_wp := fun o => hf6 (w.heap.size + 1) o (by omega)
      have hw6 : Bel w w6 := by (repeat (first | exact Below.refl _ _ | assumption | exact Bel.refl _ | refine Bel.alloc ?_ _ | refine Bel.drew ?_ | refine Bel.drewN ?_ _ | refine Bel.then_ ?_ (by assumption) | refine Bel.setCell ?_ (by first | (simp; done) | (simp; omega)) _))
      clear hc6 hf6
      obtain ⟨hcw6, hfw6, hsw6⟩ := bcell hw6
      go_wp2_with fail
      refine (holds_no _ _ _ _ _ _ _ _ (by right; omega)).mono ?_
      rintro e7 w7 ⟨rfl, hb7⟩
      obtain ⟨hc7, hf7, hs7⟩ := bcell hb7
      try simp only [World.size_alloc, World.size_drew, World.size_setCell] at hs7 hc7 hf7
      have hc7_w := fun o => hc7 (w.heap.size) o (by omega)
      have hl7_w : w.heap.size < w7.heap.size := by omega
      have hf7_w := fun o => hf7 (w.heap.size) o (by omega)
      have hc7_wp := fun o => hc7 (w.heap.size + 1) o (by omega)
      have hl7_wp : w.heap.size + 1 < w7.heap.size := by omega
      have hf7_wp := fun o => hf7 (w.heap.size + 1) o (by omega)
      have hw7 : Bel w w7 := by (repeat (first | exact Below.refl _ _ | assumption | exact Bel.refl _ | refine Bel.alloc ?_ _ | refine Bel.drew ?_ | refine Bel.drewN ?_ _ | refine Bel.then_ ?_ (by assumption) | refine Bel.setCell ?_ (by first | (simp; done) | (simp; omega)) _))
      clear hc7 hf7
      obtain ⟨hcw7, hfw7, hsw7⟩ := bcell hw7
      go_wp2_with fail
      refine (rholds_no _ _ _ _ _ _ _ _ (by right; omega)).mono ?_
      rintro e8 w8 ⟨rfl, hb8⟩
      obtain ⟨hc8, hf8, hs8⟩ := bcell hb8
      try simp only [World.size_alloc, World.size_drew, World.size_setCell] at hs8 hc8 hf8
      have hc8_w := fun o => hc8 (w.heap.size) o (by omega)
      have hl8_w : w.heap.size < w8.heap.size := by omega
      have hf8_w := fun o => hf8 (w.heap.size) o (by omega)
      have hc8_wp := fun o => hc8 (w.heap.size + 1) o (by omega)
      have hl8_wp : w.heap.size + 1 < w8.heap.size := by omega
      have hf8_wp := fun o => hf8 (w.heap.size + 1) o (by omega)
      have hw8 : Bel w w8 := by (repeat (first | exact Below.refl _ _ | assumption | exact Bel.refl _ | refine Bel.alloc ?_ _ | refine Bel.drew ?_ | refine Bel.drewN ?_ _ | refine Bel.then_ ?_ (by assumption) | refine Bel.setCell ?_ (by first | (simp; done) | (simp; omega)) _))
      clear hc8 hf8
      obtain ⟨hcw8, hfw8, hsw8⟩ := bcell hw8
      go_wp2_with (first | (go_at_call 12; refine (num_any _ _).mono ?_; rintro e w' ⟨rfl, rfl⟩) | (go_at_call 13; refine (works_any _).mono ?_; rintro e w99 ⟨rfl, hb99⟩))
      go_ret
      exact ⟨rfl, by (repeat (first | exact Below.refl _ _ | assumption | exact Bel.refl _ | refine Bel.alloc ?_ _ | refine Bel.drew ?_ | refine Bel.drewN ?_ _ | refine Bel.then_ ?_ (by assumption) | refine Bel.setCell ?_ (by first | (simp; done) | (simp; omega)) _))⟩
  · have H := Lib.hid h
    clear h
    have H2 : Hid (okB n s e = false) := Lib.hid (by have := H.out; simpa using this)
    go_enter Try.func3, Try.ntmps3
    go_wp2_with fail
    refine (lag_no _ _ _ _ H2.out).mono ?_
    rintro e9 w9 ⟨rfl, hb9⟩
    obtain ⟨hc9, hf9, hs9⟩ := bcell hb9
    try simp only [World.size_alloc, World.size_drew, World.size_setCell] at hs9 hc9 hf9
    have hc9_w := fun o => hc9 (w.heap.size) o (by omega)
    have hl9_w : w.heap.size < w9.heap.size := by omega
    have hf9_w := fun o => hf9 (w.heap.size) o (by omega)
    have hc9_wp := fun o => hc9 (w.heap.size + 1) o (by omega)
    have hl9_wp : w.heap.size + 1 < w9.heap.size := by omega
    have hf9_wp := fun o => hf9 (w.heap.size + 1) o (by omega)
    have hw9 : Bel w w9 := by (repeat (first | exact Below.refl _ _ | assumption | exact Bel.refl _ | refine Bel.alloc ?_ _ | refine Bel.drew ?_ | refine Bel.drewN ?_ _ | refine Bel.then_ ?_ (by assumption) | refine Bel.setCell ?_ (by first | (simp; done) | (simp; omega)) _))
    clear hc9 hf9
    obtain ⟨hcw9, hfw9, hsw9⟩ := bcell hw9
    go_wp2_with fail
    refine (rlag_no _ _ _ _ H2.out).mono ?_
    rintro e10 w10 ⟨rfl, hb10⟩
    obtain ⟨hc10, hf10, hs10⟩ := bcell hb10
    try simp only [World.size_alloc, World.size_drew, World.size_setCell] at hs10 hc10 hf10
    have hc10_w := fun o => hc10 (w.heap.size) o (by omega)
    have hl10_w : w.heap.size < w10.heap.size := by omega
    have hf10_w := fun o => hf10 (w.heap.size) o (by omega)
    have hc10_wp := fun o => hc10 (w.heap.size + 1) o (by omega)
    have hl10_wp : w.heap.size + 1 < w10.heap.size := by omega
    have hf10_wp := fun o => hf10 (w.heap.size + 1) o (by omega)
    have hw10 : Bel w w10 := by (repeat (first | exact Below.refl _ _ | assumption | exact Bel.refl _ | refine Bel.alloc ?_ _ | refine Bel.drew ?_ | refine Bel.drewN ?_ _ | refine Bel.then_ ?_ (by assumption) | refine Bel.setCell ?_ (by first | (simp; done) | (simp; omega)) _))
    clear hc10 hf10
    obtain ⟨hcw10, hfw10, hsw10⟩ := bcell hw10
    go_wp2_with fail
    refine (holds_no _ _ _ _ _ _ _ _ (.inl H2.out)).mono ?_
    rintro e11 w11 ⟨rfl, hb11⟩
    obtain ⟨hc11, hf11, hs11⟩ := bcell hb11
    try simp only [World.size_alloc, World.size_drew, World.size_setCell] at hs11 hc11 hf11
    have hc11_w := fun o => hc11 (w.heap.size) o (by omega)
    have hl11_w : w.heap.size < w11.heap.size := by omega
    have hf11_w := fun o => hf11 (w.heap.size) o (by omega)
    have hc11_wp := fun o => hc11 (w.heap.size + 1) o (by omega)
    have hl11_wp : w.heap.size + 1 < w11.heap.size := by omega
    have hf11_wp := fun o => hf11 (w.heap.size + 1) o (by omega)
    have hw11 : Bel w w11 := by (repeat (first | exact Below.refl _ _ | assumption | exact Bel.refl _ | refine Bel.alloc ?_ _ | refine Bel.drew ?_ | refine Bel.drewN ?_ _ | refine Bel.then_ ?_ (by assumption) | refine Bel.setCell ?_ (by first | (simp; done) | (simp; omega)) _))
    clear hc11 hf11
    obtain ⟨hcw11, hfw11, hsw11⟩ := bcell hw11
    go_wp2_with fail
    refine (rholds_no _ _ _ _ _ _ _ _ (.inl H2.out)).mono ?_
    rintro e12 w12 ⟨rfl, hb12⟩
    obtain ⟨hc12, hf12, hs12⟩ := bcell hb12
    try simp only [World.size_alloc, World.size_drew, World.size_setCell] at hs12 hc12 hf12
    have hc12_w := fun o => hc12 (w.heap.size) o (by omega)
    have hl12_w : w.heap.size < w12.heap.size := by omega
    have hf12_w := fun o => hf12 (w.heap.size) o (by omega)
    have hc12_wp := fun o => hc12 (w.heap.size + 1) o (by omega)
    have hl12_wp : w.heap.size + 1 < w12.heap.size := by omega
    have hf12_wp := fun o => hf12 (w.heap.size + 1) o (by omega)
    have hw12 : Bel w w12 := by (repeat (first | exact Below.refl _ _ | assumption | exact Bel.refl _ | refine Bel.alloc ?_ _ | refine Bel.drew ?_ | refine Bel.drewN ?_ _ | refine Bel.then_ ?_ (by assumption) | refine Bel.setCell ?_ (by first | (simp; done) | (simp; omega)) _))
    clear hc12 hf12
    obtain ⟨hcw12, hfw12, hsw12⟩ := bcell hw12
    go_wp2_with (first | (go_at_call 12; refine (num_any _ _).mono ?_; rintro e w' ⟨rfl, rfl⟩) | (go_at_call 13; refine (works_any _).mono ?_; rintro e w99 ⟨rfl, hb99⟩))
    go_ret
    exact ⟨rfl, by (repeat (first | exact Below.refl _ _ | assumption | exact Bel.refl _ | refine Bel.alloc ?_ _ | refine Bel.drew ?_ | refine Bel.drewN ?_ _ | refine Bel.then_ ?_ (by assumption) | refine Bel.setCell ?_ (by first | (simp; done) | (simp; omega)) _))⟩
end Go.Proofs.Ytpcgmghacalndaa
