/-
  The law PaceSteps's walk.
-/
import Derived.Test.YtpcgmghacalndaaPf
import Derived.Test.YtpcgmghacalndaaPg
set_option linter.unusedVariables false
set_option linter.unusedSimpArgs false
namespace Go.Proofs.Ytpcgmghacalndaa
open Go.RowKit

theorem tick_both (n s e : Int) : ∃ x y z c, (∀ w, Calls Try.prog 24 #[.agg #[.int .i64 n, .int .i64 s, .int .i64 e]] w fun e' w' => e' = .returned (.tuple #[.agg #[.int .i64 x, .int .i64 y, .int .i64 z], .int .i64 c]) ∧ Bel w w') ∧
    (∀ w, Calls Try.prog 25 #[.agg #[.int .i64 n, .int .i64 s, .int .i64 e]] w fun e' w' => e' = .returned (.tuple #[.agg #[.int .i64 x, .int .i64 y, .int .i64 z], .int .i64 c]) ∧ Bel w w') := by
  by_cases h : okB n s e = true
  · by_cases hn : (n == 1099511627776) = true
    · exact ⟨_, _, _, _, fun w => tick_full n s e w h hn, fun w => rtick_full n s e w h hn⟩
    · rw [Bool.not_eq_true] at hn
      exact ⟨_, _, _, _, fun w => tick_yes n s e w h hn, fun w => rtick_yes n s e w h hn⟩
  · rw [Bool.not_eq_true] at h
    exact ⟨_, _, _, _, fun w => tick_no n s e w h, fun w => rtick_no n s e w h⟩
theorem send_both (n s e : Int) : ∃ x y z b c, (∀ w, Calls Try.prog 26 #[.agg #[.int .i64 n, .int .i64 s, .int .i64 e]] w fun e' w' => e' = .returned (.tuple #[.agg #[.int .i64 x, .int .i64 y, .int .i64 z], .bool b, .int .i64 c]) ∧ Bel w w') ∧
    (∀ w, Calls Try.prog 27 #[.agg #[.int .i64 n, .int .i64 s, .int .i64 e]] w fun e' w' => e' = .returned (.tuple #[.agg #[.int .i64 x, .int .i64 y, .int .i64 z], .bool b, .int .i64 c]) ∧ Bel w w') := by
  by_cases h : okB n s e = true
  · exact ⟨_, _, _, _, _, fun w => send_yes n s e w h, fun w => rsend_yes n s e w h⟩
  · rw [Bool.not_eq_true] at h
    exact ⟨_, _, _, _, _, fun w => send_no n s e w h, fun w => rsend_no n s e w h⟩
theorem see_both (n s e b : Int) : ∃ x y z c, (∀ w, Calls Try.prog 28 #[.agg #[.int .i64 n, .int .i64 s, .int .i64 e], .int .i64 b] w fun e' w' => e' = .returned (.tuple #[.agg #[.int .i64 x, .int .i64 y, .int .i64 z], .int .i64 c]) ∧ Bel w w') ∧
    (∀ w, Calls Try.prog 29 #[.agg #[.int .i64 n, .int .i64 s, .int .i64 e], .int .i64 b] w fun e' w' => e' = .returned (.tuple #[.agg #[.int .i64 x, .int .i64 y, .int .i64 z], .int .i64 c]) ∧ Bel w w') := by
  by_cases h : okB n s e = false ∨ b < 0
  · exact ⟨_, _, _, _, fun w => see_no n s e b w h, fun w => rsee_no n s e b w h⟩
  · have h1 : okB n s e = true := by cases ho : okB n s e <;> simp_all
    have h2 : 0 ≤ b := by omega
    by_cases hb : b ≤ n
    · exact ⟨_, _, _, _, fun w => see_yes n s e b w h1 h2 hb, fun w => rsee_yes n s e b w h1 h2 hb⟩
    · exact ⟨_, _, _, _, fun w => see_late n s e b w h1 h2 (by omega), fun w => rsee_late n s e b w h1 h2 (by omega)⟩
theorem check_both (n s e : Int) : ∃ c b, (c = 0 ∧ b = true ∨ c = 2 ∧ b = false) ∧ (∀ w, Calls Try.prog 30 #[.agg #[.int .i64 n, .int .i64 s, .int .i64 e]] w fun e' w' => e' = .returned (.int .i64 c) ∧ Bel w w') ∧
    (∀ w, Calls Try.prog 31 #[.agg #[.int .i64 n, .int .i64 s, .int .i64 e]] w fun e' w' => e' = .returned (.bool b) ∧ Bel w w') := by
  by_cases h : okB n s e = true
  · exact ⟨0, true, .inl ⟨rfl, rfl⟩, fun w => check_yes n s e w h, fun w => by have := rright_any n s e w; rwa [h] at this⟩
  · rw [Bool.not_eq_true] at h
    exact ⟨2, false, .inr ⟨rfl, rfl⟩, fun w => check_no n s e w h, fun w => by have := rright_any n s e w; rwa [h] at this⟩

set_option maxRecDepth 100000 in
set_option maxHeartbeats 1000000 in
theorem steps_law (n s e b : Int) (w : World) : Calls Try.prog 7 #[.agg #[.int .i64 n, .int .i64 s, .int .i64 e], .int .i64 b] w fun e' w' => e' = .returned (.bool true) ∧ Bel w w' := by
  obtain ⟨x1, y1, z1, c1, t1, t2⟩ := tick_both n s e
  obtain ⟨x2, y2, z2, b2, c2, s1, s2⟩ := send_both n s e
  obtain ⟨x3, y3, z3, c3, e1, e2⟩ := see_both n s e b
  obtain ⟨c4, b4, hcb, k1, k2⟩ := check_both n s e
  have T1 := Lib.hid t1
  have T2 := Lib.hid t2
  have S1 := Lib.hid s1
  have S2 := Lib.hid s2
  have E1 := Lib.hid e1
  have E2 := Lib.hid e2
  have K1 := Lib.hid k1
  have K2 := Lib.hid k2
  clear t1 t2 s1 s2 e1 e2 k1 k2
  rcases hcb with ⟨rfl, rfl⟩ | ⟨rfl, rfl⟩
  all_goals
    go_enter Try.func7, Try.ntmps7
    go_wp2_with fail
    refine (T1.out _).mono ?_
    rintro e1 w1 ⟨rfl, hb1⟩
    obtain ⟨hc1, hf1, hs1⟩ := bcell hb1
    try simp only [World.size_alloc, World.size_drew, World.size_setCell] at hs1 hc1 hf1
    have hc1_w := fun o => hc1 (w.heap.size) o (by omega)
    have hl1_w : w.heap.size < w1.heap.size := by omega
    have hf1_w := fun o => hf1 (w.heap.size) o (by omega)
    have hw1 : Bel w w1 := by (repeat (first | exact Below.refl _ _ | assumption | exact Bel.refl _ | refine Bel.alloc ?_ _ | refine Bel.drew ?_ | refine Bel.drewN ?_ _ | refine Bel.then_ ?_ (by assumption) | refine Bel.setCell ?_ (by first | (simp; done) | (simp; omega)) _))
    clear hc1 hf1
    obtain ⟨hcw1, hfw1, hsw1⟩ := bcell hw1
    go_wp2_with fail
    refine (T2.out _).mono ?_
    rintro e2 w2 ⟨rfl, hb2⟩
    obtain ⟨hc2, hf2, hs2⟩ := bcell hb2
    try simp only [World.size_alloc, World.size_drew, World.size_setCell] at hs2 hc2 hf2
    have hc2_w := fun o => hc2 (w.heap.size) o (by omega)
    have hl2_w : w.heap.size < w2.heap.size := by omega
    have hf2_w := fun o => hf2 (w.heap.size) o (by omega)
    have hc2_w1 := fun o => hc2 (w1.heap.size) o (by omega)
    have hl2_w1 : w1.heap.size < w2.heap.size := by omega
    have hf2_w1 := fun o => hf2 (w1.heap.size) o (by omega)
    have hw2 : Bel w w2 := by (repeat (first | exact Below.refl _ _ | assumption | exact Bel.refl _ | refine Bel.alloc ?_ _ | refine Bel.drew ?_ | refine Bel.drewN ?_ _ | refine Bel.then_ ?_ (by assumption) | refine Bel.setCell ?_ (by first | (simp; done) | (simp; omega)) _))
    clear hc2 hf2
    obtain ⟨hcw2, hfw2, hsw2⟩ := bcell hw2
    go_wp2_with fail
    refine (S1.out _).mono ?_
    rintro e3 w3 ⟨rfl, hb3⟩
    obtain ⟨hc3, hf3, hs3⟩ := bcell hb3
    try simp only [World.size_alloc, World.size_drew, World.size_setCell] at hs3 hc3 hf3
    have hc3_w := fun o => hc3 (w.heap.size) o (by omega)
    have hl3_w : w.heap.size < w3.heap.size := by omega
    have hf3_w := fun o => hf3 (w.heap.size) o (by omega)
    have hc3_w1 := fun o => hc3 (w1.heap.size) o (by omega)
    have hl3_w1 : w1.heap.size < w3.heap.size := by omega
    have hf3_w1 := fun o => hf3 (w1.heap.size) o (by omega)
    have hc3_w2 := fun o => hc3 (w2.heap.size) o (by omega)
    have hl3_w2 : w2.heap.size < w3.heap.size := by omega
    have hf3_w2 := fun o => hf3 (w2.heap.size) o (by omega)
    have hw3 : Bel w w3 := by (repeat (first | exact Below.refl _ _ | assumption | exact Bel.refl _ | refine Bel.alloc ?_ _ | refine Bel.drew ?_ | refine Bel.drewN ?_ _ | refine Bel.then_ ?_ (by assumption) | refine Bel.setCell ?_ (by first | (simp; done) | (simp; omega)) _))
    clear hc3 hf3
    obtain ⟨hcw3, hfw3, hsw3⟩ := bcell hw3
    go_wp2_with fail
    refine (S2.out _).mono ?_
    rintro e4 w4 ⟨rfl, hb4⟩
    obtain ⟨hc4, hf4, hs4⟩ := bcell hb4
    try simp only [World.size_alloc, World.size_drew, World.size_setCell] at hs4 hc4 hf4
    have hc4_w := fun o => hc4 (w.heap.size) o (by omega)
    have hl4_w : w.heap.size < w4.heap.size := by omega
    have hf4_w := fun o => hf4 (w.heap.size) o (by omega)
    have hc4_w1 := fun o => hc4 (w1.heap.size) o (by omega)
    have hl4_w1 : w1.heap.size < w4.heap.size := by omega
    have hf4_w1 := fun o => hf4 (w1.heap.size) o (by omega)
    have hc4_w2 := fun o => hc4 (w2.heap.size) o (by omega)
    have hl4_w2 : w2.heap.size < w4.heap.size := by omega
    have hf4_w2 := fun o => hf4 (w2.heap.size) o (by omega)
    have hc4_w3 := fun o => hc4 (w3.heap.size) o (by omega)
    have hl4_w3 : w3.heap.size < w4.heap.size := by omega
    have hf4_w3 := fun o => hf4 (w3.heap.size) o (by omega)
    have hw4 : Bel w w4 := by (repeat (first | exact Below.refl _ _ | assumption | exact Bel.refl _ | refine Bel.alloc ?_ _ | refine Bel.drew ?_ | refine Bel.drewN ?_ _ | refine Bel.then_ ?_ (by assumption) | refine Bel.setCell ?_ (by first | (simp; done) | (simp; omega)) _))
    clear hc4 hf4
    obtain ⟨hcw4, hfw4, hsw4⟩ := bcell hw4
    go_wp2_with fail
    refine (E1.out _).mono ?_
    rintro e5 w5 ⟨rfl, hb5⟩
    obtain ⟨hc5, hf5, hs5⟩ := bcell hb5
    try simp only [World.size_alloc, World.size_drew, World.size_setCell] at hs5 hc5 hf5
    have hc5_w := fun o => hc5 (w.heap.size) o (by omega)
    have hl5_w : w.heap.size < w5.heap.size := by omega
    have hf5_w := fun o => hf5 (w.heap.size) o (by omega)
    have hc5_w1 := fun o => hc5 (w1.heap.size) o (by omega)
    have hl5_w1 : w1.heap.size < w5.heap.size := by omega
    have hf5_w1 := fun o => hf5 (w1.heap.size) o (by omega)
    have hc5_w2 := fun o => hc5 (w2.heap.size) o (by omega)
    have hl5_w2 : w2.heap.size < w5.heap.size := by omega
    have hf5_w2 := fun o => hf5 (w2.heap.size) o (by omega)
    have hc5_w3 := fun o => hc5 (w3.heap.size) o (by omega)
    have hl5_w3 : w3.heap.size < w5.heap.size := by omega
    have hf5_w3 := fun o => hf5 (w3.heap.size) o (by omega)
    have hc5_w4 := fun o => hc5 (w4.heap.size) o (by omega)
    have hl5_w4 : w4.heap.size < w5.heap.size := by omega
    have hf5_w4 := fun o => hf5 (w4.heap.size) o (by omega)
    have hw5 : Bel w w5 := by (repeat (first | exact Below.refl _ _ | assumption | exact Bel.refl _ | refine Bel.alloc ?_ _ | refine Bel.drew ?_ | refine Bel.drewN ?_ _ | refine Bel.then_ ?_ (by assumption) | refine Bel.setCell ?_ (by first | (simp; done) | (simp; omega)) _))
    clear hc5 hf5
    obtain ⟨hcw5, hfw5, hsw5⟩ := bcell hw5
    go_wp2_with fail
    refine (E2.out _).mono ?_
    rintro e6 w6 ⟨rfl, hb6⟩
    obtain ⟨hc6, hf6, hs6⟩ := bcell hb6
    try simp only [World.size_alloc, World.size_drew, World.size_setCell] at hs6 hc6 hf6
    have hc6_w := fun o => hc6 (w.heap.size) o (by omega)
    have hl6_w : w.heap.size < w6.heap.size := by omega
    have hf6_w := fun o => hf6 (w.heap.size) o (by omega)
    have hc6_w1 := fun o => hc6 (w1.heap.size) o (by omega)
    have hl6_w1 : w1.heap.size < w6.heap.size := by omega
    have hf6_w1 := fun o => hf6 (w1.heap.size) o (by omega)
    have hc6_w2 := fun o => hc6 (w2.heap.size) o (by omega)
    have hl6_w2 : w2.heap.size < w6.heap.size := by omega
    have hf6_w2 := fun o => hf6 (w2.heap.size) o (by omega)
    have hc6_w3 := fun o => hc6 (w3.heap.size) o (by omega)
    have hl6_w3 : w3.heap.size < w6.heap.size := by omega
    have hf6_w3 := fun o => hf6 (w3.heap.size) o (by omega)
    have hc6_w4 := fun o => hc6 (w4.heap.size) o (by omega)
    have hl6_w4 : w4.heap.size < w6.heap.size := by omega
    have hf6_w4 := fun o => hf6 (w4.heap.size) o (by omega)
    have hc6_w5 := fun o => hc6 (w5.heap.size) o (by omega)
    have hl6_w5 : w5.heap.size < w6.heap.size := by omega
    have hf6_w5 := fun o => hf6 (w5.heap.size) o (by omega)
    have hw6 : Bel w w6 := by (repeat (first | exact Below.refl _ _ | assumption | exact Bel.refl _ | refine Bel.alloc ?_ _ | refine Bel.drew ?_ | refine Bel.drewN ?_ _ | refine Bel.then_ ?_ (by assumption) | refine Bel.setCell ?_ (by first | (simp; done) | (simp; omega)) _))
    clear hc6 hf6
    obtain ⟨hcw6, hfw6, hsw6⟩ := bcell hw6
    go_wp2_with fail
    refine (K1.out _).mono ?_
    rintro e7 w7 ⟨rfl, hb7⟩
    obtain ⟨hc7, hf7, hs7⟩ := bcell hb7
    try simp only [World.size_alloc, World.size_drew, World.size_setCell] at hs7 hc7 hf7
    have hc7_w := fun o => hc7 (w.heap.size) o (by omega)
    have hl7_w : w.heap.size < w7.heap.size := by omega
    have hf7_w := fun o => hf7 (w.heap.size) o (by omega)
    have hc7_w1 := fun o => hc7 (w1.heap.size) o (by omega)
    have hl7_w1 : w1.heap.size < w7.heap.size := by omega
    have hf7_w1 := fun o => hf7 (w1.heap.size) o (by omega)
    have hc7_w2 := fun o => hc7 (w2.heap.size) o (by omega)
    have hl7_w2 : w2.heap.size < w7.heap.size := by omega
    have hf7_w2 := fun o => hf7 (w2.heap.size) o (by omega)
    have hc7_w3 := fun o => hc7 (w3.heap.size) o (by omega)
    have hl7_w3 : w3.heap.size < w7.heap.size := by omega
    have hf7_w3 := fun o => hf7 (w3.heap.size) o (by omega)
    have hc7_w4 := fun o => hc7 (w4.heap.size) o (by omega)
    have hl7_w4 : w4.heap.size < w7.heap.size := by omega
    have hf7_w4 := fun o => hf7 (w4.heap.size) o (by omega)
    have hc7_w5 := fun o => hc7 (w5.heap.size) o (by omega)
    have hl7_w5 : w5.heap.size < w7.heap.size := by omega
    have hf7_w5 := fun o => hf7 (w5.heap.size) o (by omega)
    have hc7_w6 := fun o => hc7 (w6.heap.size) o (by omega)
    have hl7_w6 : w6.heap.size < w7.heap.size := by omega
    have hf7_w6 := fun o => hf7 (w6.heap.size) o (by omega)
    have hw7 : Bel w w7 := by (repeat (first | exact Below.refl _ _ | assumption | exact Bel.refl _ | refine Bel.alloc ?_ _ | refine Bel.drew ?_ | refine Bel.drewN ?_ _ | refine Bel.then_ ?_ (by assumption) | refine Bel.setCell ?_ (by first | (simp; done) | (simp; omega)) _))
    clear hc7 hf7
    obtain ⟨hcw7, hfw7, hsw7⟩ := bcell hw7
    go_wp2_with (first | (go_at_call 12; refine (num_any _ _).mono ?_; rintro e w' ⟨rfl, rfl⟩) | (go_at_call 31; refine (K2.out _).mono ?_; rintro e w98 ⟨rfl, hb98⟩) | (go_at_call 13; refine (works_any _).mono ?_; rintro e w99 ⟨rfl, hb99⟩))
    go_ret
    exact ⟨rfl, by (repeat (first | exact Below.refl _ _ | assumption | exact Bel.refl _ | refine Bel.alloc ?_ _ | refine Bel.drew ?_ | refine Bel.drewN ?_ _ | refine Bel.then_ ?_ (by assumption) | refine Bel.setCell ?_ (by first | (simp; done) | (simp; omega)) _))⟩
end Go.Proofs.Ytpcgmghacalndaa
