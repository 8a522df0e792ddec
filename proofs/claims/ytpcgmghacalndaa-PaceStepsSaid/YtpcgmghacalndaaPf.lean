/-
  The contracts of package pace: Tick, and what See refuses; and of the reference's Tick, Send, See.
-/
import Derived.Test.YtpcgmghacalndaaPd
import Derived.Test.YtpcgmghacalndaaPe
set_option linter.unusedVariables false
set_option linter.unusedSimpArgs false
namespace Go.Proofs.Ytpcgmghacalndaa
open Go.RowKit

set_option maxRecDepth 100000 in
set_option maxHeartbeats 1000000 in
theorem tick_no (n s e : Int) (w : World) (h : okB n s e = false) : Calls Try.prog 24 #[.agg #[.int .i64 n, .int .i64 s, .int .i64 e]] w fun e' w' => e' = .returned (.tuple #[.agg #[.int .i64 0, .int .i64 0, .int .i64 0], .int .i64 2]) ∧ Bel w w' := by
  go_enter Try.func24, Try.ntmps24
  go_wp2
  refine wp_scope_forward 0 rfl ?_
  go_wp2_with fail
  refine (check_no _ _ _ _ h).mono ?_
  rintro e1 w1 ⟨rfl, hb1⟩
  obtain ⟨hc1, hf1, hs1⟩ := bcell hb1
  try simp only [World.size_alloc, World.size_drew, World.size_setCell] at hs1 hc1 hf1
  have hc1_w := fun o => hc1 (w.heap.size) o (by omega)
  have hl1_w : w.heap.size < w1.heap.size := by omega
  have hf1_w := fun o => hf1 (w.heap.size) o (by omega)
  have hc1_wp := fun o => hc1 (w.heap.size + 1) o (by omega)
  have hl1_wp : w.heap.size + 1 < w1.heap.size := by omega
  have hf1_wp := fun o => hf1 (w.heap.size + 1) o (by omega)
  have hw1 : Bel w w1 := by (repeat (first | exact Below.refl _ _ | assumption | exact Bel.refl _ | refine Bel.alloc ?_ _ | refine Bel.drew ?_ | refine Bel.drewN ?_ _ | refine Bel.then_ ?_ (by assumption) | refine Bel.setCell ?_ (by first | (simp; done) | (simp; omega)) _))
  clear hc1 hf1
  obtain ⟨hcw1, hfw1, hsw1⟩ := bcell hw1
  go_wp2_with fail
  refine (is_errno _ _ _).mono ?_
  rintro e2 w2 ⟨rfl, rfl⟩
  go_wp2
  go_step3
  refine ⟨rfl, ?_⟩
  go_wp2
  rw [Exit.noGoto_ret]
  refine bodyPost_ret (v := .tuple #[.agg #[.int .i64 0, .int .i64 0, .int .i64 0], .int .i64 2]) (by simp [results, Try.results24, go_sem, hc1_w, hc1_wp]) rfl ⟨rfl, by (repeat (first | exact Below.refl _ _ | assumption | exact Bel.refl _ | refine Bel.alloc ?_ _ | refine Bel.drew ?_ | refine Bel.drewN ?_ _ | refine Bel.then_ ?_ (by assumption) | refine Bel.setCell ?_ (by first | (simp; done) | (simp; omega)) _))⟩
set_option maxRecDepth 100000 in
set_option maxHeartbeats 1000000 in
theorem tick_full (n s e : Int) (w : World) (h : okB n s e = true) (hn : (n == 1099511627776) = true) : Calls Try.prog 24 #[.agg #[.int .i64 n, .int .i64 s, .int .i64 e]] w fun e' w' => e' = .returned (.tuple #[.agg #[.int .i64 0, .int .i64 0, .int .i64 0], .int .i64 310]) ∧ Bel w w' := by
  have H := Lib.hid h
  clear h
  go_enter Try.func24, Try.ntmps24
  go_wp2
  refine wp_scope_forward 0 rfl ?_
  go_wp2_with fail
  refine (check_yes _ _ _ _ H.out).mono ?_
  rintro e1 w1 ⟨rfl, hb1⟩
  obtain ⟨hc1, hf1, hs1⟩ := bcell hb1
  try simp only [World.size_alloc, World.size_drew, World.size_setCell] at hs1 hc1 hf1
  have hc1_w := fun o => hc1 (w.heap.size) o (by omega)
  have hl1_w : w.heap.size < w1.heap.size := by omega
  have hf1_w := fun o => hf1 (w.heap.size) o (by omega)
  have hc1_wp := fun o => hc1 (w.heap.size + 1) o (by omega)
  have hl1_wp : w.heap.size + 1 < w1.heap.size := by omega
  have hf1_wp := fun o => hf1 (w.heap.size + 1) o (by omega)
  have hw1 : Bel w w1 := by (repeat (first | exact Below.refl _ _ | assumption | exact Bel.refl _ | refine Bel.alloc ?_ _ | refine Bel.drew ?_ | refine Bel.drewN ?_ _ | refine Bel.then_ ?_ (by assumption) | refine Bel.setCell ?_ (by first | (simp; done) | (simp; omega)) _))
  clear hc1 hf1
  obtain ⟨hcw1, hfw1, hsw1⟩ := bcell hw1
  go_wp2_with fail
  refine (is_errno _ _ _).mono ?_
  rintro e2 w2 ⟨rfl, rfl⟩
  go_wp2
  go_step3
  refine ⟨rfl, ?_⟩
  go_wp2
  rw [Exit.noGoto_ret]
  refine bodyPost_ret (v := .tuple #[.agg #[.int .i64 0, .int .i64 0, .int .i64 0], .int .i64 310]) (by simp [results, Try.results24, go_sem, hc1_w, hc1_wp]) rfl ⟨rfl, by (repeat (first | exact Below.refl _ _ | assumption | exact Bel.refl _ | refine Bel.alloc ?_ _ | refine Bel.drew ?_ | refine Bel.drewN ?_ _ | refine Bel.then_ ?_ (by assumption) | refine Bel.setCell ?_ (by first | (simp; done) | (simp; omega)) _))⟩
set_option maxRecDepth 100000 in
set_option maxHeartbeats 1000000 in
theorem tick_yes (n s e : Int) (w : World) (h : okB n s e = true) (hn : (n == 1099511627776) = false) : Calls Try.prog 24 #[.agg #[.int .i64 n, .int .i64 s, .int .i64 e]] w fun e' w' => e' = .returned (.tuple #[.agg #[.int .i64 (n + 1), .int .i64 s, .int .i64 e], .int .i64 0]) ∧ Bel w w' := by
  obtain ⟨h1, h2, -⟩ := ok_of h
  have H := Lib.hid h
  clear h
  go_enter Try.func24, Try.ntmps24
  go_wp2
  refine wp_scope_forward 0 rfl ?_
  go_wp2_with fail
  refine (check_yes _ _ _ _ H.out).mono ?_
  rintro e1 w1 ⟨rfl, hb1⟩
  obtain ⟨hc1, hf1, hs1⟩ := bcell hb1
  try simp only [World.size_alloc, World.size_drew, World.size_setCell] at hs1 hc1 hf1
  have hc1_w := fun o => hc1 (w.heap.size) o (by omega)
  have hl1_w : w.heap.size < w1.heap.size := by omega
  have hf1_w := fun o => hf1 (w.heap.size) o (by omega)
  have hc1_wp := fun o => hc1 (w.heap.size + 1) o (by omega)
  have hl1_wp : w.heap.size + 1 < w1.heap.size := by omega
  have hf1_wp := fun o => hf1 (w.heap.size + 1) o (by omega)
  have hw1 : Bel w w1 := by (repeat (first | exact Below.refl _ _ | assumption | exact Bel.refl _ | refine Bel.alloc ?_ _ | refine Bel.drew ?_ | refine Bel.drewN ?_ _ | refine Bel.then_ ?_ (by assumption) | refine Bel.setCell ?_ (by first | (simp; done) | (simp; omega)) _))
  clear hc1 hf1
  obtain ⟨hcw1, hfw1, hsw1⟩ := bcell hw1
  go_wp2_with fail
  refine (is_errno _ _ _).mono ?_
  rintro e2 w2 ⟨rfl, rfl⟩
  go_wp2
  rw [jump_ret]
  refine bodyPost_ret (v := .tuple #[.agg #[.int .i64 (n + 1), .int .i64 s, .int .i64 e], .int .i64 0]) (by simp [results, Try.results24, go_sem, hc1_w, hc1_wp]) rfl ⟨rfl, by (repeat (first | exact Below.refl _ _ | assumption | exact Bel.refl _ | refine Bel.alloc ?_ _ | refine Bel.drew ?_ | refine Bel.drewN ?_ _ | refine Bel.then_ ?_ (by assumption) | refine Bel.setCell ?_ (by first | (simp; done) | (simp; omega)) _))⟩
set_option maxHeartbeats 1000000 in
theorem see_no (n s e b : Int) (w : World) (h : okB n s e = false ∨ b < 0) : Calls Try.prog 28 #[.agg #[.int .i64 n, .int .i64 s, .int .i64 e], .int .i64 b] w fun e' w' => e' = .returned (.tuple #[.agg #[.int .i64 0, .int .i64 0, .int .i64 0], .int .i64 2]) ∧ Bel w w' := by
  have H := Lib.hid h
  clear h
  by_cases h : okB n s e = true
  · have hl : b < 0 := by rcases H.out with h' | h' <;> simp_all
    have H2 := Lib.hid h
    clear h
    go_enter Try.func28, Try.ntmps28
    go_wp2_with fail
    refine (check_yes _ _ _ _ H2.out).mono ?_
    rintro e1 w1 ⟨rfl, hb1⟩
    obtain ⟨hc1, hf1, hs1⟩ := bcell hb1
    try simp only [World.size_alloc, World.size_drew, World.size_setCell] at hs1 hc1 hf1
    have hc1_w := fun o => hc1 (w.heap.size) o (by omega)
    have hl1_w : w.heap.size < w1.heap.size := by omega
    have hf1_w := fun o => hf1 (w.heap.size) o (by omega)
    have hc1_wp := fun o => hc1 (w.heap.size + 1) o (by omega)
    have hl1_wp : w.heap.size + 1 < w1.heap.size := by omega
    have hf1_wp := fun o => hf1 (w.heap.size + 1) o (by omega)
    have hw1 : Bel w w1 := by (repeat (first | exact Below.refl _ _ | assumption | exact Bel.refl _ | refine Bel.alloc ?_ _ | refine Bel.drew ?_ | refine Bel.drewN ?_ _ | refine Bel.then_ ?_ (by assumption) | refine Bel.setCell ?_ (by first | (simp; done) | (simp; omega)) _))
    clear hc1 hf1
    obtain ⟨hcw1, hfw1, hsw1⟩ := bcell hw1
    go_wp2
    refine bodyPost_ret (v := .tuple #[.agg #[.int .i64 0, .int .i64 0, .int .i64 0], .int .i64 2]) (by simp [results, Try.results28, go_sem, hc1_w, hc1_wp]) rfl ⟨rfl, by (repeat (first | exact Below.refl _ _ | assumption | exact Bel.refl _ | refine Bel.alloc ?_ _ | refine Bel.drew ?_ | refine Bel.drewN ?_ _ | refine Bel.then_ ?_ (by assumption) | refine Bel.setCell ?_ (by first | (simp; done) | (simp; omega)) _))⟩
  · rw [Bool.not_eq_true] at h
    have H2 := Lib.hid h
    clear h
    go_enter Try.func28, Try.ntmps28
    go_wp2_with fail
    refine (check_no _ _ _ _ H2.out).mono ?_
    rintro e2 w2 ⟨rfl, hb2⟩
    obtain ⟨hc2, hf2, hs2⟩ := bcell hb2
    try simp only [World.size_alloc, World.size_drew, World.size_setCell] at hs2 hc2 hf2
    have hc2_w := fun o => hc2 (w.heap.size) o (by omega)
    have hl2_w : w.heap.size < w2.heap.size := by omega
    have hf2_w := fun o => hf2 (w.heap.size) o (by omega)
    have hc2_wp := fun o => hc2 (w.heap.size + 1) o (by omega)
    have hl2_wp : w.heap.size + 1 < w2.heap.size := by omega
    have hf2_wp := fun o => hf2 (w.heap.size + 1) o (by omega)
    have hw2 : Bel w w2 := by (repeat (first | exact Below.refl _ _ | assumption | exact Bel.refl _ | refine Bel.alloc ?_ _ | refine Bel.drew ?_ | refine Bel.drewN ?_ _ | refine Bel.then_ ?_ (by assumption) | refine Bel.setCell ?_ (by first | (simp; done) | (simp; omega)) _))
    clear hc2 hf2
    obtain ⟨hcw2, hfw2, hsw2⟩ := bcell hw2
    go_wp2
    refine bodyPost_ret (v := .tuple #[.agg #[.int .i64 0, .int .i64 0, .int .i64 0], .int .i64 2]) (by simp [results, Try.results28, go_sem, hc2_w, hc2_wp]) rfl ⟨rfl, by (repeat (first | exact Below.refl _ _ | assumption | exact Bel.refl _ | refine Bel.alloc ?_ _ | refine Bel.drew ?_ | refine Bel.drewN ?_ _ | refine Bel.then_ ?_ (by assumption) | refine Bel.setCell ?_ (by first | (simp; done) | (simp; omega)) _))⟩
end Go.Proofs.Ytpcgmghacalndaa
