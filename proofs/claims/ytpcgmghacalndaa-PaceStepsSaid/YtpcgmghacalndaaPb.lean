/-
  The contracts of package pace and of its reference: Holds, Send, See.
-/
import Derived.Test.YtpcgmghacalndaaPa
import Derived.Deep.RegionWith
set_option linter.unusedVariables false
set_option linter.unusedSimpArgs false
namespace Go.Proofs.Ytpcgmghacalndaa
open Go.RowKit

theorem ret_bi {k : IntKind} {a b : Bool} {x y : Int} (h : a = b) (hx : x = y) : Ending.returned (.tuple #[.bool a, .int k x]) = Ending.returned (.tuple #[.bool b, .int k y]) := by rw [h, hx]
theorem index0 (x0 x1 : Value) (w : World) : (Instr.index 74 (.agg #[x0, x1]) (.int .i64 0)).run Try.prog w = .ok x0 w := by kernel_rfl
theorem index1 (x0 x1 : Value) (w : World) : (Instr.index 74 (.agg #[x0, x1]) (.int .i64 1)).run Try.prog w = .ok x1 w := by kernel_rfl


set_option maxHeartbeats 400000 in
theorem lag32 (n s e : Int) (w : World) (h1 : 0 ≤ n) (h2 : n ≤ 1099511627776) (h5 : 0 ≤ e) (h6 : e ≤ n) : Calls Try.prog 32 #[.agg #[.int .i64 n, .int .i64 s, .int .i64 e]] w fun e' w' => e' = .returned (.int .i64 (n - e)) ∧ Bel w w' := by
  go_enter Try.func32, Try.ntmps32
  go_wp2
  go_ret
  exact ⟨rfl, by (repeat (first | exact Below.refl _ _ | assumption | exact Bel.refl _ | refine Bel.alloc ?_ _ | refine Bel.drew ?_ | refine Bel.drewN ?_ _ | refine Bel.then_ ?_ (by assumption) | refine Bel.setCell ?_ (by first | (simp; done) | (simp; omega)) _))⟩
set_option maxHeartbeats 400000 in
theorem why2 (n s e limit : Int) (b c : Nat) (w : World) (h1 : 0 ≤ n) (h2 : n ≤ 1099511627776) (h5 : 0 ≤ e) (h6 : e ≤ n) (hb : b < w.heap.size) (hc : c < w.heap.size)
    (k0 : w.cell? ⟨b, 0, none⟩ = some (.int .i64 n)) (k1 : w.cell? ⟨b, 1, none⟩ = some (.int .i64 s)) (k2 : w.cell? ⟨b, 2, none⟩ = some (.int .i64 e)) (k3 : w.cell? ⟨c, 0, none⟩ = some (.int .i64 limit)) :
    Calls Try.prog 34 #[.pointer (some ⟨b, 0, none⟩), .pointer (some ⟨c, 0, none⟩)] w fun e' w' => e' = .returned (.bool (decide (limit < n - e))) ∧ Bel w w' := by
  go_enter Try.func34, Try.ntmps34
  go_wp2_with fail
  go_region_with (go_at_call 32; refine (lag32 n s e _ h1 h2 h5 h6).mono ?_; rintro e1 w1 ⟨rfl, hb1⟩; obtain ⟨hc1, hf1, hs1⟩ := bcell hb1; simp only [World.size_alloc, World.size_drew] at hs1 hc1)
  all_goals
    go_wp2
    go_ret
    exact ⟨rfl, by (repeat (first | exact Below.refl _ _ | assumption | exact Bel.refl _ | refine Bel.alloc ?_ _ | refine Bel.drew ?_ | refine Bel.drewN ?_ _ | refine Bel.then_ ?_ (by assumption) | refine Bel.setCell ?_ (by first | (simp; done) | (simp; omega)) _))⟩

set_option maxHeartbeats 400000 in
theorem holds_yes (n s e limit : Int) (a b c : Bool) (w : World) (h : okB n s e = true) (hl : 0 ≤ limit) : Calls Try.prog 10 #[.agg #[.int .i64 n, .int .i64 s, .int .i64 e], .int .i64 limit, .agg #[.bool a, .bool b, .bool c]] w fun e' w' => e' = .returned (.tuple #[.bool (c || decide (limit < n - e)), .int .i64 0]) ∧ Bel w w' := by
  obtain ⟨h1, h2, h3, h4, h5, h6⟩ := ok_of h
  have H := Lib.hid h
  clear h
  have i0 := index0
  have i1 := index1
  by_cases hc : c = true
  · subst hc
    go_enter Try.func10, Try.ntmps10
    go_wp2_with fail
    refine (check_yes _ _ _ _ H.out).mono ?_
    rintro e1 w1 ⟨rfl, hb1⟩
    obtain ⟨hc1, hf1, hs1⟩ := bcell hb1
    try simp only [World.size_alloc, World.size_drew, World.size_setCell] at hs1 hc1 hf1
    go_wp2_with (first | (refine wp_loop_rounds 3 ?_; rw [rounds_succ]) | rw [rounds_succ] | go_in)
    go_ret2
    exact ⟨rfl, by (repeat (first | exact Below.refl _ _ | assumption | exact Bel.refl _ | refine Bel.alloc ?_ _ | refine Bel.drew ?_ | refine Bel.drewN ?_ _ | refine Bel.then_ ?_ (by assumption) | refine Bel.setCell ?_ (by first | (simp; done) | (simp; omega)) _))⟩
  · rw [Bool.not_eq_true] at hc
    subst hc
    by_cases hd : limit < n - e
    all_goals
      go_enter Try.func10, Try.ntmps10
      go_wp2_with fail
      refine (check_yes _ _ _ _ H.out).mono ?_
      rintro e2 w2 ⟨rfl, hb2⟩
      obtain ⟨hc2, hf2, hs2⟩ := bcell hb2
      try simp only [World.size_alloc, World.size_drew, World.size_setCell] at hs2 hc2 hf2
      go_wp2_with (first | (refine wp_loop_rounds 3 ?_; rw [rounds_succ]) | rw [rounds_succ] | (go_at_call 34; fail) | (go_at_call 33; go_in))
      refine (why2 n s e limit _ _ _ h1 h2 h5 h6 ?_ ?_ ?_ ?_ ?_ ?_).mono ?_
      all_goals try first | omega | (go_simp; done)
      rintro e9 w9 ⟨rfl, hb9⟩
      go_wp2_with (first | rw [rounds_succ] | go_in)
      go_ret2
      exact ⟨ret_bi (by simp; omega) rfl, by (repeat (first | exact Below.refl _ _ | assumption | exact Bel.refl _ | refine Bel.alloc ?_ _ | refine Bel.drew ?_ | refine Bel.drewN ?_ _ | refine Bel.then_ ?_ (by assumption) | refine Bel.setCell ?_ (by first | (simp; done) | (simp; omega)) _))⟩
set_option maxHeartbeats 400000 in
theorem holds_no (n s e limit : Int) (a b c : Bool) (w : World) (h : okB n s e = false ∨ limit < 0) : Calls Try.prog 10 #[.agg #[.int .i64 n, .int .i64 s, .int .i64 e], .int .i64 limit, .agg #[.bool a, .bool b, .bool c]] w fun e' w' => e' = .returned (.tuple #[.bool false, .int .i64 2]) ∧ Bel w w' := by
  have H := Lib.hid h
  clear h
  by_cases h : okB n s e = true
  · have hl : limit < 0 := by rcases H.out with h' | h' <;> simp_all
    have H2 := Lib.hid h
    clear h
    go_enter Try.func10, Try.ntmps10
    go_wp2_with fail
    refine (check_yes _ _ _ _ H2.out).mono ?_
    rintro e1 w1 ⟨rfl, hb1⟩
    obtain ⟨hc1, hf1, hs1⟩ := bcell hb1
    try simp only [World.size_alloc, World.size_drew, World.size_setCell] at hs1 hc1 hf1
    go_wp2
    go_ret2
    exact ⟨rfl, by (repeat (first | exact Below.refl _ _ | assumption | exact Bel.refl _ | refine Bel.alloc ?_ _ | refine Bel.drew ?_ | refine Bel.drewN ?_ _ | refine Bel.then_ ?_ (by assumption) | refine Bel.setCell ?_ (by first | (simp; done) | (simp; omega)) _))⟩
  · have H2 := Lib.hid h
    clear h
    go_enter Try.func10, Try.ntmps10
    go_wp2_with fail
    refine (check_no _ _ _ _ (by have := H2.out; simpa using this)).mono ?_
    rintro e2 w2 ⟨rfl, hb2⟩
    obtain ⟨hc2, hf2, hs2⟩ := bcell hb2
    try simp only [World.size_alloc, World.size_drew, World.size_setCell] at hs2 hc2 hf2
    go_wp2
    go_ret2
    exact ⟨rfl, by (repeat (first | exact Below.refl _ _ | assumption | exact Bel.refl _ | refine Bel.alloc ?_ _ | refine Bel.drew ?_ | refine Bel.drewN ?_ _ | refine Bel.then_ ?_ (by assumption) | refine Bel.setCell ?_ (by first | (simp; done) | (simp; omega)) _))⟩
set_option maxHeartbeats 400000 in
theorem rholds_yes (n s e limit : Int) (a b c : Bool) (w : World) (h : okB n s e = true) (hl : 0 ≤ limit) : Calls Try.prog 11 #[.agg #[.int .i64 n, .int .i64 s, .int .i64 e], .int .i64 limit, .agg #[.bool a, .bool b, .bool c]] w fun e' w' => e' = .returned (.tuple #[.bool (c || decide (limit < n - e)), .int .i64 0]) ∧ Bel w w' := by
  obtain ⟨h1, h2, h3, h4, h5, h6⟩ := ok_of h
  go_enter Try.func11, Try.ntmps11
  go_wp2_with fail
  refine (rright_any _ _ _ _).mono ?_
  rintro e1 w1 ⟨rfl, hb1⟩
  obtain ⟨hc1, hf1, hs1⟩ := bcell hb1
  try simp only [World.size_alloc, World.size_drew, World.size_setCell] at hs1 hc1 hf1
  go_wp2
  all_goals
    go_ret2
    refine ⟨by simp_all, by (repeat (first | exact Below.refl _ _ | assumption | exact Bel.refl _ | refine Bel.alloc ?_ _ | refine Bel.drew ?_ | refine Bel.drewN ?_ _ | refine Bel.then_ ?_ (by assumption) | refine Bel.setCell ?_ (by first | (simp; done) | (simp; omega)) _))⟩
set_option maxHeartbeats 400000 in
theorem rholds_no (n s e limit : Int) (a b c : Bool) (w : World) (h : okB n s e = false ∨ limit < 0) : Calls Try.prog 11 #[.agg #[.int .i64 n, .int .i64 s, .int .i64 e], .int .i64 limit, .agg #[.bool a, .bool b, .bool c]] w fun e' w' => e' = .returned (.tuple #[.bool false, .int .i64 2]) ∧ Bel w w' := by
  have H := Lib.hid h
  clear h
  by_cases h : okB n s e = true
  · have hl : limit < 0 := by rcases H.out with h' | h' <;> simp_all
    go_enter Try.func11, Try.ntmps11
    go_wp2_with fail
    refine (rright_any _ _ _ _).mono ?_
    rintro e1 w1 ⟨rfl, hb1⟩
    obtain ⟨hc1, hf1, hs1⟩ := bcell hb1
    try simp only [World.size_alloc, World.size_drew, World.size_setCell] at hs1 hc1 hf1
    go_wp2
    go_ret2
    exact ⟨rfl, by (repeat (first | exact Below.refl _ _ | assumption | exact Bel.refl _ | refine Bel.alloc ?_ _ | refine Bel.drew ?_ | refine Bel.drewN ?_ _ | refine Bel.then_ ?_ (by assumption) | refine Bel.setCell ?_ (by first | (simp; done) | (simp; omega)) _))⟩
  · rw [Bool.not_eq_true] at h
    go_enter Try.func11, Try.ntmps11
    go_wp2_with fail
    refine (rright_any _ _ _ _).mono ?_
    rintro e2 w2 ⟨rfl, hb2⟩
    obtain ⟨hc2, hf2, hs2⟩ := bcell hb2
    try simp only [World.size_alloc, World.size_drew, World.size_setCell] at hs2 hc2 hf2
    go_wp2
    go_ret2
    exact ⟨rfl, by (repeat (first | exact Below.refl _ _ | assumption | exact Bel.refl _ | refine Bel.alloc ?_ _ | refine Bel.drew ?_ | refine Bel.drewN ?_ _ | refine Bel.then_ ?_ (by assumption) | refine Bel.setCell ?_ (by first | (simp; done) | (simp; omega)) _))⟩
end Go.Proofs.Ytpcgmghacalndaa
