/-
  The contracts of package pace and of its reference: Check, Lag, Holds, Right.
-/
import Derived.Test.YtpcgmghacalndaaKit
set_option linter.unusedVariables false
set_option linter.unusedSimpArgs false
namespace Go.Proofs.Ytpcgmghacalndaa
open Go.RowKit

def allIn (a z : Int) (xs : List Int) : Bool := xs.all fun x => decide (a ≤ x) && decide (x ≤ z)
theorem allIn_snoc {a z : Int} {xs : List Int} {k : Nat} {x : Int} (h : xs[k]? = some x) : allIn a z (xs.take (k + 1)) = (allIn a z (xs.take k) && (decide (a ≤ x) && decide (x ≤ z))) := by
  have hl : k < xs.length := (List.getElem?_eq_some_iff.1 h).1
  have hx : xs[k] = x := (List.getElem?_eq_some_iff.1 h).2
  rw [List.take_succ_eq_append_getElem hl, hx]
  simp [allIn]
theorem allIn_not {a z : Int} {xs : List Int} {k : Nat} {x : Int} (h : xs[k]? = some x) (hn : (decide (a ≤ x) && decide (x ≤ z)) = false) : allIn a z xs = false := by
  have hx : x ∈ xs := List.mem_of_getElem? h
  unfold allIn
  rw [List.all_eq_false]
  exact ⟨x, hx, by simp [hn]⟩

set_option maxHeartbeats 400000 in
/-- within, at any numbers. -/
theorem within_any (a z : Int) (xs : List Int) (b : Nat) (w : World) (hx : ∀ i x, xs[i]? = some x → w.cell? ⟨b, i, none⟩ = some (.int .i64 x)) (hl : xs.length ≤ 8) :
    Calls Try.prog 55 #[.int .i64 a, .int .i64 z, .slice (some ⟨b, 0, none⟩) xs.length xs.length] w fun e w' => e = .returned (.bool (allIn a z xs)) ∧ w = w' := by
  have HX := Lib.hid hx
  clear hx
  go_enter Try.func55, Try.ntmps55
  go_wp2
  go_loop [11] (fun i => ∃ k : Nat, k ≤ xs.length ∧ i = .int .i64 k ∧ allIn a z (xs.take k) = true) (fun i => xs.length - (intOf i).toNat)
  case atStart => exact ⟨0, Nat.zero_le _, rfl, rfl⟩
  case round =>
    obtain ⟨k, hk, rfl, hal⟩ := hrel
    have HA := Lib.hid hal
    clear hal
    by_cases hlt : k < xs.length
    · obtain ⟨x, hxk⟩ : ∃ x, xs[k]? = some x := ⟨_, List.getElem?_eq_getElem hlt⟩
      have hc := HX.out k x hxk
      have HK := Lib.hid hxk
      clear hxk
      go_wp2
      all_goals first
        | (go_round
           case rel => exact ⟨k + 1, by omega, by go_num, by rw [allIn_snoc HK.out, HA.out]; simp; omega⟩
           case measure => simp [intOf]; omega)
        | (go_ret
           refine ⟨?_, rfl⟩
           rw [allIn_not HK.out (by simp; omega)]; rfl)
    · go_wp2
      go_ret
      rw [List.take_of_length_le (by omega)] at HA
      refine ⟨?_, rfl⟩
      rw [HA.out]; rfl
theorem within_at (a z : Int) (xs : List Int) (b m : Nat) (w : World) (hm : xs.length = m) (hx : ∀ i x, xs[i]? = some x → w.cell? ⟨b, i, none⟩ = some (.int .i64 x)) (hl : xs.length ≤ 8) :
    Calls Try.prog 55 #[.int .i64 a, .int .i64 z, .slice (some ⟨b, 0, none⟩) m m] w fun e w' => e = .returned (.bool (allIn a z xs)) ∧ w = w' := by
  subst hm; exact within_any a z xs b w hx hl

def okB (n s e : Int) : Bool := decide (0 ≤ n) && decide (n ≤ 1099511627776) && decide (0 ≤ s) && decide (s ≤ n) && decide (0 ≤ e) && decide (e ≤ n)
theorem okB_allIn (n s e : Int) : okB n s e = (allIn 0 1099511627776 [n] && allIn 0 n [s, e]) := by
  simp [okB, allIn, Bool.and_assoc]
theorem ok_of {n s e : Int} (h : okB n s e = true) : 0 ≤ n ∧ n ≤ 1099511627776 ∧ 0 ≤ s ∧ s ≤ n ∧ 0 ≤ e ∧ e ≤ n := by
  simp [okB] at h; omega
theorem no_of {n s e : Int} (h : okB n s e = false) : ¬ (0 ≤ n) ∨ ¬ (n ≤ 1099511627776) ∨ ¬ (0 ≤ s) ∨ ¬ (s ≤ n) ∨ ¬ (0 ≤ e) ∨ ¬ (e ≤ n) := by
  simp [okB] at h; omega

theorem cells1 {w : World} {b : Nat} {x : Int} (h : w.cell? ⟨b, 0, none⟩ = some (.int .i64 x)) : ∀ i y, [x][i]? = some y → w.cell? ⟨b, i, none⟩ = some (.int .i64 y) := by
  intro i y hy
  match i, hy with
  | 0, hy => simp at hy; subst hy; exact h
theorem cells2 {w : World} {b : Nat} {x x' : Int} (h : w.cell? ⟨b, 0, none⟩ = some (.int .i64 x)) (h' : w.cell? ⟨b, 1, none⟩ = some (.int .i64 x')) : ∀ i y, [x, x'][i]? = some y → w.cell? ⟨b, i, none⟩ = some (.int .i64 y) := by
  intro i y hy
  match i, hy with
  | 0, hy => simp at hy; subst hy; exact h
  | 1, hy => simp at hy; subst hy; exact h'

set_option maxHeartbeats 400000 in
/-- Check. -/
theorem check_any (n s e : Int) (w : World) : Calls Try.prog 30 #[.agg #[.int .i64 n, .int .i64 s, .int .i64 e]] w fun e' w' => e' = .returned (.int .i64 (if okB n s e then 0 else 2)) ∧ Bel w w' := by
  rw [okB_allIn]
  by_cases h1 : allIn 0 1099511627776 [n] = true
  · by_cases h2 : allIn 0 n [s, e] = true
    all_goals
      try rw [Bool.not_eq_true] at h2
      rw [h1, h2]
      go_enter Try.func30, Try.ntmps30
      go_wp2_with (first | (go_at_call 55; (with_reducible refine (within_at 0 1099511627776 [n] _ 1 _ rfl ?h1 ?h2).mono ?_); (case h1 => exact cells1 (by go_simp)); (case h2 => simp); rintro e1 w1 ⟨rfl, rfl⟩) | (go_at_call 55; (with_reducible refine (within_at 0 n [s, e] _ 2 _ rfl ?h1 ?h2).mono ?_); (case h1 => exact cells2 (by go_simp) (by go_simp)); (case h2 => simp); rintro e1 w1 ⟨rfl, rfl⟩) | go_in)
      go_ret
      exact ⟨rfl, by (repeat (first | exact Below.refl _ _ | assumption | exact Bel.refl _ | refine Bel.alloc ?_ _ | refine Bel.drew ?_ | refine Bel.drewN ?_ _ | refine Bel.then_ ?_ (by assumption) | refine Bel.setCell ?_ (by first | (simp; done) | (simp; omega)) _))⟩
  · rw [Bool.not_eq_true] at h1
    rw [h1]
    go_enter Try.func30, Try.ntmps30
    go_wp2_with (first | (go_at_call 55; (with_reducible refine (within_at 0 1099511627776 [n] _ 1 _ rfl ?h1 ?h2).mono ?_); (case h1 => exact cells1 (by go_simp)); (case h2 => simp); rintro e1 w1 ⟨rfl, rfl⟩) | go_in)
    go_ret
    exact ⟨rfl, by (repeat (first | exact Below.refl _ _ | assumption | exact Bel.refl _ | refine Bel.alloc ?_ _ | refine Bel.drew ?_ | refine Bel.drewN ?_ _ | refine Bel.then_ ?_ (by assumption) | refine Bel.setCell ?_ (by first | (simp; done) | (simp; omega)) _))⟩
theorem check_yes (n s e : Int) (w : World) (h : okB n s e = true) : Calls Try.prog 30 #[.agg #[.int .i64 n, .int .i64 s, .int .i64 e]] w fun e' w' => e' = .returned (.int .i64 0) ∧ Bel w w' := by
  have := check_any n s e w
  rwa [h] at this
theorem check_no (n s e : Int) (w : World) (h : okB n s e = false) : Calls Try.prog 30 #[.agg #[.int .i64 n, .int .i64 s, .int .i64 e]] w fun e' w' => e' = .returned (.int .i64 2) ∧ Bel w w' := by
  have := check_any n s e w
  rwa [h] at this

set_option maxHeartbeats 400000 in
theorem lag_yes (n s e : Int) (w : World) (h : okB n s e = true) : Calls Try.prog 8 #[.agg #[.int .i64 n, .int .i64 s, .int .i64 e]] w fun e' w' => e' = .returned (.tuple #[.int .i64 (n - e), .int .i64 0]) ∧ Bel w w' := by
  obtain ⟨h1, h2, h3, h4, h5, h6⟩ := ok_of h
  have H := Lib.hid h
  clear h
  go_enter Try.func8, Try.ntmps8
  go_wp2_with fail
  refine (check_yes _ _ _ _ H.out).mono ?_
  rintro e1 w1 ⟨rfl, hb1⟩
  obtain ⟨hc1, hf1, hs1⟩ := bcell hb1
  try simp only [World.size_alloc, World.size_drew, World.size_setCell] at hs1 hc1 hf1
  go_wp2
  go_ret2
  exact ⟨rfl, by (repeat (first | exact Below.refl _ _ | assumption | exact Bel.refl _ | refine Bel.alloc ?_ _ | refine Bel.drew ?_ | refine Bel.drewN ?_ _ | refine Bel.then_ ?_ (by assumption) | refine Bel.setCell ?_ (by first | (simp; done) | (simp; omega)) _))⟩
set_option maxHeartbeats 400000 in
theorem lag_no (n s e : Int) (w : World) (h : okB n s e = false) : Calls Try.prog 8 #[.agg #[.int .i64 n, .int .i64 s, .int .i64 e]] w fun e' w' => e' = .returned (.tuple #[.int .i64 0, .int .i64 2]) ∧ Bel w w' := by
  go_enter Try.func8, Try.ntmps8
  go_wp2_with fail
  refine (check_no _ _ _ _ h).mono ?_
  rintro e1 w1 ⟨rfl, hb1⟩
  obtain ⟨hc1, hf1, hs1⟩ := bcell hb1
  try simp only [World.size_alloc, World.size_drew, World.size_setCell] at hs1 hc1 hf1
  go_wp2
  go_ret2
  exact ⟨rfl, by (repeat (first | exact Below.refl _ _ | assumption | exact Bel.refl _ | refine Bel.alloc ?_ _ | refine Bel.drew ?_ | refine Bel.drewN ?_ _ | refine Bel.then_ ?_ (by assumption) | refine Bel.setCell ?_ (by first | (simp; done) | (simp; omega)) _))⟩

set_option maxHeartbeats 400000 in
theorem rright_any (n s e : Int) (w : World) : Calls Try.prog 31 #[.agg #[.int .i64 n, .int .i64 s, .int .i64 e]] w fun e' w' => e' = .returned (.bool (okB n s e)) ∧ Bel w w' := by
  go_enter Try.func31, Try.ntmps31
  go_wp2
  all_goals
    go_ret
    exact ⟨ret_bool (by simp [okB]; omega), by (repeat (first | exact Below.refl _ _ | assumption | exact Bel.refl _ | refine Bel.alloc ?_ _ | refine Bel.drew ?_ | refine Bel.drewN ?_ _ | refine Bel.then_ ?_ (by assumption) | refine Bel.setCell ?_ (by first | (simp; done) | (simp; omega)) _))⟩
set_option maxHeartbeats 400000 in
theorem rlag_yes (n s e : Int) (w : World) (h : okB n s e = true) : Calls Try.prog 9 #[.agg #[.int .i64 n, .int .i64 s, .int .i64 e]] w fun e' w' => e' = .returned (.tuple #[.int .i64 (n - e), .int .i64 0]) ∧ Bel w w' := by
  obtain ⟨h1, h2, h3, h4, h5, h6⟩ := ok_of h
  go_enter Try.func9, Try.ntmps9
  go_wp2_with fail
  refine (rright_any _ _ _ _).mono ?_
  rintro e1 w1 ⟨rfl, hb1⟩
  obtain ⟨hc1, hf1, hs1⟩ := bcell hb1
  try simp only [World.size_alloc, World.size_drew, World.size_setCell] at hs1 hc1 hf1
  go_wp2
  go_ret2
  exact ⟨rfl, by (repeat (first | exact Below.refl _ _ | assumption | exact Bel.refl _ | refine Bel.alloc ?_ _ | refine Bel.drew ?_ | refine Bel.drewN ?_ _ | refine Bel.then_ ?_ (by assumption) | refine Bel.setCell ?_ (by first | (simp; done) | (simp; omega)) _))⟩
set_option maxHeartbeats 400000 in
theorem rlag_no (n s e : Int) (w : World) (h : okB n s e = false) : Calls Try.prog 9 #[.agg #[.int .i64 n, .int .i64 s, .int .i64 e]] w fun e' w' => e' = .returned (.tuple #[.int .i64 0, .int .i64 2]) ∧ Bel w w' := by
  go_enter Try.func9, Try.ntmps9
  go_wp2_with fail
  refine (rright_any _ _ _ _).mono ?_
  rintro e1 w1 ⟨rfl, hb1⟩
  obtain ⟨hc1, hf1, hs1⟩ := bcell hb1
  try simp only [World.size_alloc, World.size_drew, World.size_setCell] at hs1 hc1 hf1
  go_wp2
  go_ret2
  exact ⟨rfl, by (repeat (first | exact Below.refl _ _ | assumption | exact Bel.refl _ | refine Bel.alloc ?_ _ | refine Bel.drew ?_ | refine Bel.drewN ?_ _ | refine Bel.then_ ?_ (by assumption) | refine Bel.setCell ?_ (by first | (simp; done) | (simp; omega)) _))⟩
end Go.Proofs.Ytpcgmghacalndaa
