/-
  Package pace (for the law of its own stage): its contracts; the chapter's rows. (Printed by gen/mkpca.py out of the first round's texts.)
-/
import Derived.Test.YtnajjhgbombboaaMem
import Derived.Deep.RegionWith
import Derived.LaidEql
import Derived.Stop.Asserts
import Derived.RowKitTokens
set_option linter.unusedVariables false
set_option linter.unusedSimpArgs false
set_option linter.unusedVariables false
set_option linter.unusedSimpArgs false
namespace Go.Proofs.Ytnajjhgbombboaa
open Go.RowKit Go.Extern.Stop Go.Stop Go.Extern


def allIn (a z : Int) (xs : List Int) : Bool := xs.all fun x => decide (a ≤ x) && decide (x ≤ z)
theorem allIn_snoc {a z : Int} {xs : List Int} {k : Nat} {x : Int} (h : xs[k]? = some x) : allIn a z (xs.take (k + 1)) = (allIn a z (xs.take k) && (decide (a ≤ x) && decide (x ≤ z))) := by
  have hl : k < xs.length := (List.getElem?_eq_some_iff.1 h).1
  have hx : xs[k] = x := (List.getElem?_eq_some_iff.1 h).2
  rw [List.take_succ_eq_append_getElem hl, hx]
  simp [allIn]
theorem allIn_not {a z : Int} {xs : List Int} {k : Nat} {x : Int} (h : xs[k]? = some x) (hn : (decide (a ≤ x) && decide (x ≤ z)) = false) : allIn a z xs = false := by
  have hx : x ∈ xs := List.mem_of_getElem? h
  unfold allIn
  rw [List.all_eq_false]
  exact ⟨x, hx, by simp [hn]⟩

set_option maxHeartbeats 400000 in
/-- within, at any numbers. -/
theorem within_any (a z : Int) (xs : List Int) (b : Nat) (w : World) (hx : ∀ i x, xs[i]? = some x → w.cell? ⟨b, i, none⟩ = some (.int .i64 x)) (hl : xs.length ≤ 8) :
    Calls Try.prog 27 #[.int .i64 a, .int .i64 z, .slice (some ⟨b, 0, none⟩) xs.length xs.length] w fun e w' => e = .returned (.bool (allIn a z xs)) ∧ w = w' := by
  have HX := Lib.hid hx
  clear hx
  go_enter Try.func27, Try.ntmps27
  go_wp2
  go_loop [11] (fun i => ∃ k : Nat, k ≤ xs.length ∧ i = .int .i64 k ∧ allIn a z (xs.take k) = true) (fun i => xs.length - (intOf i).toNat)
  case atStart => exact ⟨0, Nat.zero_le _, rfl, rfl⟩
  case round =>
    obtain ⟨k, hk, rfl, hal⟩ := hrel
    have HA := Lib.hid hal
    clear hal
    by_cases hlt : k < xs.length
    · obtain ⟨x, hxk⟩ : ∃ x, xs[k]? = some x := ⟨_, List.getElem?_eq_getElem hlt⟩
      have hc := HX.out k x hxk
      have HK := Lib.hid hxk
      clear hxk
      go_wp2
      all_goals first
        | (go_round
           case rel => exact ⟨k + 1, by omega, by go_num, by rw [allIn_snoc HK.out, HA.out]; simp; omega⟩
           case measure => simp [intOf]; omega)
        | (go_ret
           refine ⟨?_, rfl⟩
           rw [allIn_not HK.out (by simp; omega)]; rfl)
    · go_wp2
      go_ret
      rw [List.take_of_length_le (by omega)] at HA
      refine ⟨?_, rfl⟩
      rw [HA.out]; rfl
theorem within_at (a z : Int) (xs : List Int) (b m : Nat) (w : World) (hm : xs.length = m) (hx : ∀ i x, xs[i]? = some x → w.cell? ⟨b, i, none⟩ = some (.int .i64 x)) (hl : xs.length ≤ 8) :
    Calls Try.prog 27 #[.int .i64 a, .int .i64 z, .slice (some ⟨b, 0, none⟩) m m] w fun e w' => e = .returned (.bool (allIn a z xs)) ∧ w = w' := by
  subst hm; exact within_any a z xs b w hx hl

def okB (n s e : Int) : Bool := decide (0 ≤ n) && decide (n ≤ 1099511627776) && decide (0 ≤ s) && decide (s ≤ n) && decide (0 ≤ e) && decide (e ≤ n)
theorem okB_allIn (n s e : Int) : okB n s e = (allIn 0 1099511627776 [n] && allIn 0 n [s, e]) := by
  simp [okB, allIn, Bool.and_assoc]
theorem ok_of {n s e : Int} (h : okB n s e = true) : 0 ≤ n ∧ n ≤ 1099511627776 ∧ 0 ≤ s ∧ s ≤ n ∧ 0 ≤ e ∧ e ≤ n := by
  simp [okB] at h; omega
theorem no_of {n s e : Int} (h : okB n s e = false) : ¬ (0 ≤ n) ∨ ¬ (n ≤ 1099511627776) ∨ ¬ (0 ≤ s) ∨ ¬ (s ≤ n) ∨ ¬ (0 ≤ e) ∨ ¬ (e ≤ n) := by
  simp [okB] at h; omega

theorem cells1 {w : World} {b : Nat} {x : Int} (h : w.cell? ⟨b, 0, none⟩ = some (.int .i64 x)) : ∀ i y, [x][i]? = some y → w.cell? ⟨b, i, none⟩ = some (.int .i64 y) := by
  intro i y hy
  match i, hy with
  | 0, hy => simp at hy; subst hy; exact h
theorem cells2 {w : World} {b : Nat} {x x' : Int} (h : w.cell? ⟨b, 0, none⟩ = some (.int .i64 x)) (h' : w.cell? ⟨b, 1, none⟩ = some (.int .i64 x')) : ∀ i y, [x, x'][i]? = some y → w.cell? ⟨b, i, none⟩ = some (.int .i64 y) := by
  intro i y hy
  match i, hy with
  | 0, hy => simp at hy; subst hy; exact h
  | 1, hy => simp at hy; subst hy; exact h'

set_option maxHeartbeats 400000 in
/-- Check. -/
theorem check_any (n s e : Int) (w : World) : Calls Try.prog 10 #[.agg #[.int .i64 n, .int .i64 s, .int .i64 e]] w fun e' w' => e' = .returned (.int .i64 (if okB n s e then 0 else 2)) ∧ Bel w w' := by
  rw [okB_allIn]
  by_cases h1 : allIn 0 1099511627776 [n] = true
  · by_cases h2 : allIn 0 n [s, e] = true
    all_goals
      try rw [Bool.not_eq_true] at h2
      rw [h1, h2]
      go_enter Try.func10, Try.ntmps10
      go_wp2_with (first | (go_at_call 27; (with_reducible refine (within_at 0 1099511627776 [n] _ 1 _ rfl ?h1 ?h2).mono ?_); (case h1 => exact cells1 (by go_simp)); (case h2 => simp); rintro e1 w1 ⟨rfl, rfl⟩) | (go_at_call 27; (with_reducible refine (within_at 0 n [s, e] _ 2 _ rfl ?h1 ?h2).mono ?_); (case h1 => exact cells2 (by go_simp) (by go_simp)); (case h2 => simp); rintro e1 w1 ⟨rfl, rfl⟩) | go_in)
      go_ret
      exact ⟨rfl, by (repeat (first | exact Below.refl _ _ | assumption | exact Bel.refl _ | refine Bel.alloc ?_ _ | refine Bel.drew ?_ | refine Bel.drewN ?_ _ | refine Bel.then_ ?_ (by assumption) | refine Bel.setCell ?_ (by first | (simp; done) | (simp; omega)) _))⟩
  · rw [Bool.not_eq_true] at h1
    rw [h1]
    go_enter Try.func10, Try.ntmps10
    go_wp2_with (first | (go_at_call 27; (with_reducible refine (within_at 0 1099511627776 [n] _ 1 _ rfl ?h1 ?h2).mono ?_); (case h1 => exact cells1 (by go_simp)); (case h2 => simp); rintro e1 w1 ⟨rfl, rfl⟩) | go_in)
    go_ret
    exact ⟨rfl, by (repeat (first | exact Below.refl _ _ | assumption | exact Bel.refl _ | refine Bel.alloc ?_ _ | refine Bel.drew ?_ | refine Bel.drewN ?_ _ | refine Bel.then_ ?_ (by assumption) | refine Bel.setCell ?_ (by first | (simp; done) | (simp; omega)) _))⟩
theorem check_yes (n s e : Int) (w : World) (h : okB n s e = true) : Calls Try.prog 10 #[.agg #[.int .i64 n, .int .i64 s, .int .i64 e]] w fun e' w' => e' = .returned (.int .i64 0) ∧ Bel w w' := by
  have := check_any n s e w
  rwa [h] at this
theorem check_no (n s e : Int) (w : World) (h : okB n s e = false) : Calls Try.prog 10 #[.agg #[.int .i64 n, .int .i64 s, .int .i64 e]] w fun e' w' => e' = .returned (.int .i64 2) ∧ Bel w w' := by
  have := check_any n s e w
  rwa [h] at this

set_option maxHeartbeats 400000 in
theorem lag_yes (n s e : Int) (w : World) (h : okB n s e = true) : Calls Try.prog 5 #[.agg #[.int .i64 n, .int .i64 s, .int .i64 e]] w fun e' w' => e' = .returned (.tuple #[.int .i64 (n - e), .int .i64 0]) ∧ Bel w w' := by
  obtain ⟨h1, h2, h3, h4, h5, h6⟩ := ok_of h
  have H := Lib.hid h
  clear h
  go_enter Try.func5, Try.ntmps5
  go_wp2_with fail
  refine (check_yes _ _ _ _ H.out).mono ?_
  rintro e1 w1 ⟨rfl, hb1⟩
  obtain ⟨hc1, hf1, hs1⟩ := bcell hb1
  try simp only [World.size_alloc, World.size_drew, World.size_setCell] at hs1 hc1 hf1
  go_wp2
  go_ret2
  exact ⟨rfl, by (repeat (first | exact Below.refl _ _ | assumption | exact Bel.refl _ | refine Bel.alloc ?_ _ | refine Bel.drew ?_ | refine Bel.drewN ?_ _ | refine Bel.then_ ?_ (by assumption) | refine Bel.setCell ?_ (by first | (simp; done) | (simp; omega)) _))⟩
set_option maxHeartbeats 400000 in
theorem lag_no (n s e : Int) (w : World) (h : okB n s e = false) : Calls Try.prog 5 #[.agg #[.int .i64 n, .int .i64 s, .int .i64 e]] w fun e' w' => e' = .returned (.tuple #[.int .i64 0, .int .i64 2]) ∧ Bel w w' := by
  go_enter Try.func5, Try.ntmps5
  go_wp2_with fail
  refine (check_no _ _ _ _ h).mono ?_
  rintro e1 w1 ⟨rfl, hb1⟩
  obtain ⟨hc1, hf1, hs1⟩ := bcell hb1
  try simp only [World.size_alloc, World.size_drew, World.size_setCell] at hs1 hc1 hf1
  go_wp2
  go_ret2
  exact ⟨rfl, by (repeat (first | exact Below.refl _ _ | assumption | exact Bel.refl _ | refine Bel.alloc ?_ _ | refine Bel.drew ?_ | refine Bel.drewN ?_ _ | refine Bel.then_ ?_ (by assumption) | refine Bel.setCell ?_ (by first | (simp; done) | (simp; omega)) _))⟩


theorem ret_bi {k : IntKind} {a b : Bool} {x y : Int} (h : a = b) (hx : x = y) : Ending.returned (.tuple #[.bool a, .int k x]) = Ending.returned (.tuple #[.bool b, .int k y]) := by rw [h, hx]
theorem index0 (x0 x1 : Value) (w : World) : (Instr.index 88 (.agg #[x0, x1]) (.int .i64 0)).run Try.prog w = .ok x0 w := by kernel_rfl
theorem index1 (x0 x1 : Value) (w : World) : (Instr.index 88 (.agg #[x0, x1]) (.int .i64 1)).run Try.prog w = .ok x1 w := by kernel_rfl


set_option maxHeartbeats 400000 in
theorem lag32 (n s e : Int) (w : World) (h1 : 0 ≤ n) (h2 : n ≤ 1099511627776) (h5 : 0 ≤ e) (h6 : e ≤ n) : Calls Try.prog 14 #[.agg #[.int .i64 n, .int .i64 s, .int .i64 e]] w fun e' w' => e' = .returned (.int .i64 (n - e)) ∧ Bel w w' := by
  go_enter Try.func14, Try.ntmps14
  go_wp2
  go_ret
  exact ⟨rfl, by (repeat (first | exact Below.refl _ _ | assumption | exact Bel.refl _ | refine Bel.alloc ?_ _ | refine Bel.drew ?_ | refine Bel.drewN ?_ _ | refine Bel.then_ ?_ (by assumption) | refine Bel.setCell ?_ (by first | (simp; done) | (simp; omega)) _))⟩
set_option maxHeartbeats 400000 in
theorem why2 (n s e limit : Int) (b c : Nat) (w : World) (h1 : 0 ≤ n) (h2 : n ≤ 1099511627776) (h5 : 0 ≤ e) (h6 : e ≤ n) (hb : b < w.heap.size) (hc : c < w.heap.size)
    (k0 : w.cell? ⟨b, 0, none⟩ = some (.int .i64 n)) (k1 : w.cell? ⟨b, 1, none⟩ = some (.int .i64 s)) (k2 : w.cell? ⟨b, 2, none⟩ = some (.int .i64 e)) (k3 : w.cell? ⟨c, 0, none⟩ = some (.int .i64 limit)) :
    Calls Try.prog 24 #[.pointer (some ⟨b, 0, none⟩), .pointer (some ⟨c, 0, none⟩)] w fun e' w' => e' = .returned (.bool (decide (limit < n - e))) ∧ Bel w w' := by
  go_enter Try.func24, Try.ntmps24
  go_wp2_with fail
  go_region_with (go_at_call 14; refine (lag32 n s e _ h1 h2 h5 h6).mono ?_; rintro e1 w1 ⟨rfl, hb1⟩; obtain ⟨hc1, hf1, hs1⟩ := bcell hb1; simp only [World.size_alloc, World.size_drew] at hs1 hc1)
  all_goals
    go_wp2
    go_ret
    exact ⟨rfl, by (repeat (first | exact Below.refl _ _ | assumption | exact Bel.refl _ | refine Bel.alloc ?_ _ | refine Bel.drew ?_ | refine Bel.drewN ?_ _ | refine Bel.then_ ?_ (by assumption) | refine Bel.setCell ?_ (by first | (simp; done) | (simp; omega)) _))⟩

set_option maxHeartbeats 400000 in
theorem holds_yes (n s e limit : Int) (a b c : Bool) (w : World) (h : okB n s e = true) (hl : 0 ≤ limit) : Calls Try.prog 13 #[.agg #[.int .i64 n, .int .i64 s, .int .i64 e], .int .i64 limit, .agg #[.bool a, .bool b, .bool c]] w fun e' w' => e' = .returned (.tuple #[.bool (c || decide (limit < n - e)), .int .i64 0]) ∧ Bel w w' := by
  obtain ⟨h1, h2, h3, h4, h5, h6⟩ := ok_of h
  have H := Lib.hid h
  clear h
  have i0 := index0
  have i1 := index1
  by_cases hc : c = true
  · subst hc
    go_enter Try.func13, Try.ntmps13
    go_wp2_with fail
    refine (check_yes _ _ _ _ H.out).mono ?_
    rintro e1 w1 ⟨rfl, hb1⟩
    obtain ⟨hc1, hf1, hs1⟩ := bcell hb1
    try simp only [World.size_alloc, World.size_drew, World.size_setCell] at hs1 hc1 hf1
    go_wp2_with (first | (refine wp_loop_rounds 3 ?_; rw [rounds_succ]) | rw [rounds_succ] | go_in)
    go_ret2
    exact ⟨rfl, by (repeat (first | exact Below.refl _ _ | assumption | exact Bel.refl _ | refine Bel.alloc ?_ _ | refine Bel.drew ?_ | refine Bel.drewN ?_ _ | refine Bel.then_ ?_ (by assumption) | refine Bel.setCell ?_ (by first | (simp; done) | (simp; omega)) _))⟩
  · rw [Bool.not_eq_true] at hc
    subst hc
    by_cases hd : limit < n - e
    all_goals
      go_enter Try.func13, Try.ntmps13
      go_wp2_with fail
      refine (check_yes _ _ _ _ H.out).mono ?_
      rintro e2 w2 ⟨rfl, hb2⟩
      obtain ⟨hc2, hf2, hs2⟩ := bcell hb2
      try simp only [World.size_alloc, World.size_drew, World.size_setCell] at hs2 hc2 hf2
      go_wp2_with (first | (refine wp_loop_rounds 3 ?_; rw [rounds_succ]) | rw [rounds_succ] | (go_at_call 24; fail) | (go_at_call 23; go_in))
      refine (why2 n s e limit _ _ _ h1 h2 h5 h6 ?_ ?_ ?_ ?_ ?_ ?_).mono ?_
      all_goals try first | omega | (go_simp; done)
      rintro e9 w9 ⟨rfl, hb9⟩
      go_wp2_with (first | rw [rounds_succ] | go_in)
      go_ret2
      exact ⟨ret_bi (by simp; omega) rfl, by (repeat (first | exact Below.refl _ _ | assumption | exact Bel.refl _ | refine Bel.alloc ?_ _ | refine Bel.drew ?_ | refine Bel.drewN ?_ _ | refine Bel.then_ ?_ (by assumption) | refine Bel.setCell ?_ (by first | (simp; done) | (simp; omega)) _))⟩

set_option maxHeartbeats 400000 in
theorem send_yes (n s e : Int) (w : World) (h : okB n s e = true) : Calls Try.prog 7 #[.agg #[.int .i64 n, .int .i64 s, .int .i64 e]] w fun e' w' => e' = .returned (.tuple #[.agg #[.int .i64 n, .int .i64 n, .int .i64 e], .bool (decide (s < n)), .int .i64 0]) ∧ Bel w w' := by
  have H := Lib.hid h
  clear h
  go_enter Try.func7, Try.ntmps7
  go_wp2_with fail
  refine (check_yes _ _ _ _ H.out).mono ?_
  rintro e1 w1 ⟨rfl, hb1⟩
  obtain ⟨hc1, hf1, hs1⟩ := bcell hb1
  try simp only [World.size_alloc, World.size_drew, World.size_setCell] at hs1 hc1 hf1
  have hc1_w := fun o => hc1 (w.heap.size) o (by omega)
  have hl1_w : w.heap.size < w1.heap.size := by omega
  have hf1_w := fun o => hf1 (w.heap.size) o (by omega)
  have hc1_wp := fun o => hc1 (w.heap.size + 1) o (by omega)
  have hl1_wp : w.heap.size + 1 < w1.heap.size := by omega
  have hf1_wp := fun o => hf1 (w.heap.size + 1) o (by omega)
  have hw1 : Bel w w1 := by (repeat (first | exact Below.refl _ _ | assumption | exact Bel.refl _ | refine Bel.alloc ?_ _ | refine Bel.drew ?_ | refine Bel.drewN ?_ _ | refine Bel.then_ ?_ (by assumption) | refine Bel.setCell ?_ (by first | (simp; done) | (simp; omega)) _))
  clear hc1 hf1
  obtain ⟨hcw1, hfw1, hsw1⟩ := bcell hw1
  go_wp2
  refine bodyPost_ret (v := .tuple #[.agg #[.int .i64 n, .int .i64 n, .int .i64 e], .bool (decide (s < n)), .int .i64 0]) (by simp [results, Try.results7, go_sem, hc1_w, hc1_wp]) rfl ⟨rfl, by (repeat (first | exact Below.refl _ _ | assumption | exact Bel.refl _ | refine Bel.alloc ?_ _ | refine Bel.drew ?_ | refine Bel.drewN ?_ _ | refine Bel.then_ ?_ (by assumption) | refine Bel.setCell ?_ (by first | (simp; done) | (simp; omega)) _))⟩
set_option maxHeartbeats 400000 in
theorem send_no (n s e : Int) (w : World) (h : okB n s e = false) : Calls Try.prog 7 #[.agg #[.int .i64 n, .int .i64 s, .int .i64 e]] w fun e' w' => e' = .returned (.tuple #[.agg #[.int .i64 0, .int .i64 0, .int .i64 0], .bool false, .int .i64 2]) ∧ Bel w w' := by
  have H := Lib.hid h
  clear h
  go_enter Try.func7, Try.ntmps7
  go_wp2_with fail
  refine (check_no _ _ _ _ H.out).mono ?_
  rintro e1 w1 ⟨rfl, hb1⟩
  obtain ⟨hc1, hf1, hs1⟩ := bcell hb1
  try simp only [World.size_alloc, World.size_drew, World.size_setCell] at hs1 hc1 hf1
  have hc1_w := fun o => hc1 (w.heap.size) o (by omega)
  have hl1_w : w.heap.size < w1.heap.size := by omega
  have hf1_w := fun o => hf1 (w.heap.size) o (by omega)
  have hc1_wp := fun o => hc1 (w.heap.size + 1) o (by omega)
  have hl1_wp : w.heap.size + 1 < w1.heap.size := by omega
  have hf1_wp := fun o => hf1 (w.heap.size + 1) o (by omega)
  have hw1 : Bel w w1 := by (repeat (first | exact Below.refl _ _ | assumption | exact Bel.refl _ | refine Bel.alloc ?_ _ | refine Bel.drew ?_ | refine Bel.drewN ?_ _ | refine Bel.then_ ?_ (by assumption) | refine Bel.setCell ?_ (by first | (simp; done) | (simp; omega)) _))
  clear hc1 hf1
  obtain ⟨hcw1, hfw1, hsw1⟩ := bcell hw1
  go_wp2
  refine bodyPost_ret (v := .tuple #[.agg #[.int .i64 0, .int .i64 0, .int .i64 0], .bool false, .int .i64 2]) (by simp [results, Try.results7, go_sem, hc1_w, hc1_wp]) rfl ⟨rfl, by (repeat (first | exact Below.refl _ _ | assumption | exact Bel.refl _ | refine Bel.alloc ?_ _ | refine Bel.drew ?_ | refine Bel.drewN ?_ _ | refine Bel.then_ ?_ (by assumption) | refine Bel.setCell ?_ (by first | (simp; done) | (simp; omega)) _))⟩
set_option maxHeartbeats 1000000 in
theorem see_yes (n s e b : Int) (w : World) (h : okB n s e = true) (hb1 : 0 ≤ b) (hb2 : b ≤ n) : Calls Try.prog 8 #[.agg #[.int .i64 n, .int .i64 s, .int .i64 e], .int .i64 b] w fun e' w' => e' = .returned (.tuple #[.agg #[.int .i64 n, .int .i64 s, .int .i64 (if e < b then b else e)], .int .i64 0]) ∧ Bel w w' := by
  have H := Lib.hid h
  clear h
  by_cases hlt : e < b
  · go_enter Try.func8, Try.ntmps8
    go_wp2_with fail
    refine (check_yes _ _ _ _ H.out).mono ?_
    rintro e1 w1 ⟨rfl, hb1⟩
    obtain ⟨hc1, hf1, hs1⟩ := bcell hb1
    try simp only [World.size_alloc, World.size_drew, World.size_setCell] at hs1 hc1 hf1
    have hc1_w := fun o => hc1 (w.heap.size) o (by omega)
    have hl1_w : w.heap.size < w1.heap.size := by omega
    have hf1_w := fun o => hf1 (w.heap.size) o (by omega)
    have hc1_wp := fun o => hc1 (w.heap.size + 1) o (by omega)
    have hl1_wp : w.heap.size + 1 < w1.heap.size := by omega
    have hf1_wp := fun o => hf1 (w.heap.size + 1) o (by omega)
    have hw1 : Bel w w1 := by (repeat (first | exact Below.refl _ _ | assumption | exact Bel.refl _ | refine Bel.alloc ?_ _ | refine Bel.drew ?_ | refine Bel.drewN ?_ _ | refine Bel.then_ ?_ (by assumption) | refine Bel.setCell ?_ (by first | (simp; done) | (simp; omega)) _))
    clear hc1 hf1
    obtain ⟨hcw1, hfw1, hsw1⟩ := bcell hw1
    go_wp2
    refine bodyPost_ret (v := .tuple #[.agg #[.int .i64 n, .int .i64 s, .int .i64 b], .int .i64 0]) (by simp [results, Try.results8, go_sem, hc1_w, hc1_wp]) rfl ⟨rfl, by (repeat (first | exact Below.refl _ _ | assumption | exact Bel.refl _ | refine Bel.alloc ?_ _ | refine Bel.drew ?_ | refine Bel.drewN ?_ _ | refine Bel.then_ ?_ (by assumption) | refine Bel.setCell ?_ (by first | (simp; done) | (simp; omega)) _))⟩
  · go_enter Try.func8, Try.ntmps8
    go_wp2_with fail
    refine (check_yes _ _ _ _ H.out).mono ?_
    rintro e2 w2 ⟨rfl, hb2⟩
    obtain ⟨hc2, hf2, hs2⟩ := bcell hb2
    try simp only [World.size_alloc, World.size_drew, World.size_setCell] at hs2 hc2 hf2
    have hc2_w := fun o => hc2 (w.heap.size) o (by omega)
    have hl2_w : w.heap.size < w2.heap.size := by omega
    have hf2_w := fun o => hf2 (w.heap.size) o (by omega)
    have hc2_wp := fun o => hc2 (w.heap.size + 1) o (by omega)
    have hl2_wp : w.heap.size + 1 < w2.heap.size := by omega
    have hf2_wp := fun o => hf2 (w.heap.size + 1) o (by omega)
    have hw2 : Bel w w2 := by (repeat (first | exact Below.refl _ _ | assumption | exact Bel.refl _ | refine Bel.alloc ?_ _ | refine Bel.drew ?_ | refine Bel.drewN ?_ _ | refine Bel.then_ ?_ (by assumption) | refine Bel.setCell ?_ (by first | (simp; done) | (simp; omega)) _))
    clear hc2 hf2
    obtain ⟨hcw2, hfw2, hsw2⟩ := bcell hw2
    go_wp2
    refine bodyPost_ret (v := .tuple #[.agg #[.int .i64 n, .int .i64 s, .int .i64 e], .int .i64 0]) (by simp [results, Try.results8, go_sem, hc2_w, hc2_wp]) rfl ⟨rfl, by (repeat (first | exact Below.refl _ _ | assumption | exact Bel.refl _ | refine Bel.alloc ?_ _ | refine Bel.drew ?_ | refine Bel.drewN ?_ _ | refine Bel.then_ ?_ (by assumption) | refine Bel.setCell ?_ (by first | (simp; done) | (simp; omega)) _))⟩
set_option maxHeartbeats 400000 in
theorem see_late (n s e b : Int) (w : World) (h : okB n s e = true) (hb1 : 0 ≤ b) (hb2 : n < b) : Calls Try.prog 8 #[.agg #[.int .i64 n, .int .i64 s, .int .i64 e], .int .i64 b] w fun e' w' => e' = .returned (.tuple #[.agg #[.int .i64 0, .int .i64 0, .int .i64 0], .int .i64 310]) ∧ Bel w w' := by
  have H := Lib.hid h
  clear h
  go_enter Try.func8, Try.ntmps8
  go_wp2_with fail
  refine (check_yes _ _ _ _ H.out).mono ?_
  rintro e1 w1 ⟨rfl, hb1⟩
  obtain ⟨hc1, hf1, hs1⟩ := bcell hb1
  try simp only [World.size_alloc, World.size_drew, World.size_setCell] at hs1 hc1 hf1
  have hc1_w := fun o => hc1 (w.heap.size) o (by omega)
  have hl1_w : w.heap.size < w1.heap.size := by omega
  have hf1_w := fun o => hf1 (w.heap.size) o (by omega)
  have hc1_wp := fun o => hc1 (w.heap.size + 1) o (by omega)
  have hl1_wp : w.heap.size + 1 < w1.heap.size := by omega
  have hf1_wp := fun o => hf1 (w.heap.size + 1) o (by omega)
  have hw1 : Bel w w1 := by (repeat (first | exact Below.refl _ _ | assumption | exact Bel.refl _ | refine Bel.alloc ?_ _ | refine Bel.drew ?_ | refine Bel.drewN ?_ _ | refine Bel.then_ ?_ (by assumption) | refine Bel.setCell ?_ (by first | (simp; done) | (simp; omega)) _))
  clear hc1 hf1
  obtain ⟨hcw1, hfw1, hsw1⟩ := bcell hw1
  go_wp2
  refine bodyPost_ret (v := .tuple #[.agg #[.int .i64 0, .int .i64 0, .int .i64 0], .int .i64 310]) (by simp [results, Try.results8, go_sem, hc1_w, hc1_wp]) rfl ⟨rfl, by (repeat (first | exact Below.refl _ _ | assumption | exact Bel.refl _ | refine Bel.alloc ?_ _ | refine Bel.drew ?_ | refine Bel.drewN ?_ _ | refine Bel.then_ ?_ (by assumption) | refine Bel.setCell ?_ (by first | (simp; done) | (simp; omega)) _))⟩
theorem asTypeOf (v : Value) (w : World) : (Extern.ReflectliteType.typeOf #[.iface 32 v]).run Try.prog w = .ok (.iface 108 (.agg #[.pointer (some ⟨0, 32, none⟩)])) w := by kernel_rfl
theorem eqlIn_errno {P : Program} {ti tn : TypeId} {ms : Array (String × TypeId)} {i : TypeInfo} {k : IntKind} (hi : P.underlying ti = some (.interface ms)) (hn : P.underlying tn = some (.int k)) (hinfo : P.info? tn = some i) (hcomp : i.comparable = true) (d : Nat) (a b : Int) (w : World) :
    (Op.equalIn (d + 2) ti (.iface tn (.int k a)) (.iface tn (.int k b))).run P w = .ok (a == b) w := by
  simp [Op.equalIn, run_underlying hi, run_underlying hn, typeInfo, hinfo, hcomp]
theorem eql_errno {P : Program} {ti tn : TypeId} {ms : Array (String × TypeId)} {i : TypeInfo} {k : IntKind} (hi : P.underlying ti = some (.interface ms)) (hn : P.underlying tn = some (.int k)) (hinfo : P.info? tn = some i) (hcomp : i.comparable = true) (a b : Int) (w : World) :
    (binOp .eql ti (.iface tn (.int k a)) (.iface tn (.int k b))).run P w = .ok (.bool (a == b)) w := by
  simp only [binOp]
  simp [Op.equal, Op.maxDepth, eqlIn_errno hi hn hinfo hcomp 9998 a b w]
def comparableOf : Array Value → Sem Value := Extern.ReflectliteType.method fun t => do Rtype.noPackHeld "Comparable" t; pure (.bool (← typeInfo t).comparable)
theorem isComparable (w : World) : (comparableOf #[.agg #[.pointer (some ⟨0, 32, none⟩)]]).run Try.prog w = .ok (.bool true) w := by kernel_rfl
theorem isMComparable (v : Value) (w : World) : (Go.method 285 108 v "Comparable").run Try.prog w = .ok (92, v) w := by kernel_rfl
theorem isComp : (Try.prog.info? 32).map (·.comparable) = some true := by kernel_rfl
theorem isEnoIs (v : Value) (xT : TypeId) (w : World) : (Instr.typeAssert (.iface 32 v) xT 110 true).run Try.prog w = .ok (.tuple #[.nilIface, .bool false]) w := run_typeAssert_lacksB Try.underlying110 (by kernel_rfl) (by kernel_rfl) v xT w
theorem isEnoUnwrap (v : Value) (xT : TypeId) (w : World) : (Instr.typeAssert (.iface 32 v) xT 113 true).run Try.prog w = .ok (.tuple #[.nilIface, .bool false]) w := run_typeAssert_lacksB Try.underlying113 (by kernel_rfl) (by kernel_rfl) v xT w
theorem isEnoUnwraps (v : Value) (xT : TypeId) (w : World) : (Instr.typeAssert (.iface 32 v) xT 115 true).run Try.prog w = .ok (.tuple #[.nilIface, .bool false]) w := run_typeAssert_lacksB Try.underlying115 (by kernel_rfl) (by kernel_rfl) v xT w
set_option maxRecDepth 100000 in
set_option maxHeartbeats 1000000 in
theorem is_errno (a b : Int) (w : World) : Calls Try.prog 15 #[.iface 32 (.int .i64 a), .iface 32 (.int .i64 b)] w fun e w' => e = .returned (.bool (a == b)) ∧ w = w' := by
  obtain ⟨i, hi, hcmp⟩ := Option.map_eq_some_iff.1 isComp
  have h53 := @run_callFunc_extern Try.prog 25 _ Extern.ReflectliteType.typeOf Try.func25 (by kernel_rfl) (by kernel_rfl) (by kernel_rfl) (by kernel_rfl)
  have h75 := @run_callFunc_extern Try.prog 92 _ comparableOf Try.func92 (by kernel_rfl) (by kernel_rfl) (by kernel_rfl) (by kernel_rfl)
  have tT := asTypeOf
  have cT := isComparable
  have mR := isMComparable
  have nE := isEnoIs
  have uE := isEnoUnwrap
  have vE := isEnoUnwraps
  have heq := eql_errno (P := Try.prog) Try.underlying90 Try.underlying32 hi hcmp a b
  clear hi hcmp
  by_cases hab : (a == b) = true
  · rw [hab] at heq ⊢
    have HAB := Lib.hid hab
    clear hab
    go_enter Try.func15, Try.ntmps15
    go_wp2
    refine wp_loop_rounds 1 ?_
    rw [rounds_succ]
    go_wp2
    go_ret
    exact ⟨rfl, rfl⟩
  · rw [Bool.not_eq_true] at hab
    rw [hab] at heq ⊢
    have HAB := Lib.hid hab
    clear hab
    go_enter Try.func15, Try.ntmps15
    go_wp2
    refine wp_loop_rounds 1 ?_
    rw [rounds_succ]
    go_wp2
    go_ret
    exact ⟨rfl, rfl⟩

set_option maxRecDepth 100000 in
set_option maxHeartbeats 1000000 in
theorem tick_no (n s e : Int) (w : World) (h : okB n s e = false) : Calls Try.prog 6 #[.agg #[.int .i64 n, .int .i64 s, .int .i64 e]] w fun e' w' => e' = .returned (.tuple #[.agg #[.int .i64 0, .int .i64 0, .int .i64 0], .int .i64 2]) ∧ Bel w w' := by
  go_enter Try.func6, Try.ntmps6
  go_wp2
  refine wp_scope_forward 0 rfl ?_
  go_wp2_with fail
  refine (check_no _ _ _ _ h).mono ?_
  rintro e1 w1 ⟨rfl, hb1⟩
  obtain ⟨hc1, hf1, hs1⟩ := bcell hb1
  try simp only [World.size_alloc, World.size_drew, World.size_setCell] at hs1 hc1 hf1
  have hc1_w := fun o => hc1 (w.heap.size) o (by omega)
  have hl1_w : w.heap.size < w1.heap.size := by omega
  have hf1_w := fun o => hf1 (w.heap.size) o (by omega)
  have hc1_wp := fun o => hc1 (w.heap.size + 1) o (by omega)
  have hl1_wp : w.heap.size + 1 < w1.heap.size := by omega
  have hf1_wp := fun o => hf1 (w.heap.size + 1) o (by omega)
  have hw1 : Bel w w1 := by (repeat (first | exact Below.refl _ _ | assumption | exact Bel.refl _ | refine Bel.alloc ?_ _ | refine Bel.drew ?_ | refine Bel.drewN ?_ _ | refine Bel.then_ ?_ (by assumption) | refine Bel.setCell ?_ (by first | (simp; done) | (simp; omega)) _))
  clear hc1 hf1
  obtain ⟨hcw1, hfw1, hsw1⟩ := bcell hw1
  go_wp2_with fail
  refine (is_errno _ _ _).mono ?_
  rintro e2 w2 ⟨rfl, rfl⟩
  go_wp2
  go_step3
  refine ⟨rfl, ?_⟩
  go_wp2
  rw [Exit.noGoto_ret]
  refine bodyPost_ret (v := .tuple #[.agg #[.int .i64 0, .int .i64 0, .int .i64 0], .int .i64 2]) (by simp [results, Try.results6, go_sem, hc1_w, hc1_wp]) rfl ⟨rfl, by (repeat (first | exact Below.refl _ _ | assumption | exact Bel.refl _ | refine Bel.alloc ?_ _ | refine Bel.drew ?_ | refine Bel.drewN ?_ _ | refine Bel.then_ ?_ (by assumption) | refine Bel.setCell ?_ (by first | (simp; done) | (simp; omega)) _))⟩
set_option maxRecDepth 100000 in
set_option maxHeartbeats 1000000 in
theorem tick_full (n s e : Int) (w : World) (h : okB n s e = true) (hn : (n == 1099511627776) = true) : Calls Try.prog 6 #[.agg #[.int .i64 n, .int .i64 s, .int .i64 e]] w fun e' w' => e' = .returned (.tuple #[.agg #[.int .i64 0, .int .i64 0, .int .i64 0], .int .i64 310]) ∧ Bel w w' := by
  have H := Lib.hid h
  clear h
  go_enter Try.func6, Try.ntmps6
  go_wp2
  refine wp_scope_forward 0 rfl ?_
  go_wp2_with fail
  refine (check_yes _ _ _ _ H.out).mono ?_
  rintro e1 w1 ⟨rfl, hb1⟩
  obtain ⟨hc1, hf1, hs1⟩ := bcell hb1
  try simp only [World.size_alloc, World.size_drew, World.size_setCell] at hs1 hc1 hf1
  have hc1_w := fun o => hc1 (w.heap.size) o (by omega)
  have hl1_w : w.heap.size < w1.heap.size := by omega
  have hf1_w := fun o => hf1 (w.heap.size) o (by omega)
  have hc1_wp := fun o => hc1 (w.heap.size + 1) o (by omega)
  have hl1_wp : w.heap.size + 1 < w1.heap.size := by omega
  have hf1_wp := fun o => hf1 (w.heap.size + 1) o (by omega)
  have hw1 : Bel w w1 := by (repeat (first | exact Below.refl _ _ | assumption | exact Bel.refl _ | refine Bel.alloc ?_ _ | refine Bel.drew ?_ | refine Bel.drewN ?_ _ | refine Bel.then_ ?_ (by assumption) | refine Bel.setCell ?_ (by first | (simp; done) | (simp; omega)) _))
  clear hc1 hf1
  obtain ⟨hcw1, hfw1, hsw1⟩ := bcell hw1
  go_wp2_with fail
  refine (is_errno _ _ _).mono ?_
  rintro e2 w2 ⟨rfl, rfl⟩
  go_wp2
  go_step3
  refine ⟨rfl, ?_⟩
  go_wp2
  rw [Exit.noGoto_ret]
  refine bodyPost_ret (v := .tuple #[.agg #[.int .i64 0, .int .i64 0, .int .i64 0], .int .i64 310]) (by simp [results, Try.results6, go_sem, hc1_w, hc1_wp]) rfl ⟨rfl, by (repeat (first | exact Below.refl _ _ | assumption | exact Bel.refl _ | refine Bel.alloc ?_ _ | refine Bel.drew ?_ | refine Bel.drewN ?_ _ | refine Bel.then_ ?_ (by assumption) | refine Bel.setCell ?_ (by first | (simp; done) | (simp; omega)) _))⟩
set_option maxRecDepth 100000 in
set_option maxHeartbeats 1000000 in
theorem tick_yes (n s e : Int) (w : World) (h : okB n s e = true) (hn : (n == 1099511627776) = false) : Calls Try.prog 6 #[.agg #[.int .i64 n, .int .i64 s, .int .i64 e]] w fun e' w' => e' = .returned (.tuple #[.agg #[.int .i64 (n + 1), .int .i64 s, .int .i64 e], .int .i64 0]) ∧ Bel w w' := by
  obtain ⟨h1, h2, -⟩ := ok_of h
  have H := Lib.hid h
  clear h
  go_enter Try.func6, Try.ntmps6
  go_wp2
  refine wp_scope_forward 0 rfl ?_
  go_wp2_with fail
  refine (check_yes _ _ _ _ H.out).mono ?_
  rintro e1 w1 ⟨rfl, hb1⟩
  obtain ⟨hc1, hf1, hs1⟩ := bcell hb1
  try simp only [World.size_alloc, World.size_drew, World.size_setCell] at hs1 hc1 hf1
  have hc1_w := fun o => hc1 (w.heap.size) o (by omega)
  have hl1_w : w.heap.size < w1.heap.size := by omega
  have hf1_w := fun o => hf1 (w.heap.size) o (by omega)
  have hc1_wp := fun o => hc1 (w.heap.size + 1) o (by omega)
  have hl1_wp : w.heap.size + 1 < w1.heap.size := by omega
  have hf1_wp := fun o => hf1 (w.heap.size + 1) o (by omega)
  have hw1 : Bel w w1 := by (repeat (first | exact Below.refl _ _ | assumption | exact Bel.refl _ | refine Bel.alloc ?_ _ | refine Bel.drew ?_ | refine Bel.drewN ?_ _ | refine Bel.then_ ?_ (by assumption) | refine Bel.setCell ?_ (by first | (simp; done) | (simp; omega)) _))
  clear hc1 hf1
  obtain ⟨hcw1, hfw1, hsw1⟩ := bcell hw1
  go_wp2_with fail
  refine (is_errno _ _ _).mono ?_
  rintro e2 w2 ⟨rfl, rfl⟩
  go_wp2
  rw [jump_ret]
  refine bodyPost_ret (v := .tuple #[.agg #[.int .i64 (n + 1), .int .i64 s, .int .i64 e], .int .i64 0]) (by simp [results, Try.results6, go_sem, hc1_w, hc1_wp]) rfl ⟨rfl, by (repeat (first | exact Below.refl _ _ | assumption | exact Bel.refl _ | refine Bel.alloc ?_ _ | refine Bel.drew ?_ | refine Bel.drewN ?_ _ | refine Bel.then_ ?_ (by assumption) | refine Bel.setCell ?_ (by first | (simp; done) | (simp; omega)) _))⟩
set_option maxHeartbeats 1000000 in
theorem see_no (n s e b : Int) (w : World) (h : okB n s e = false ∨ b < 0) : Calls Try.prog 8 #[.agg #[.int .i64 n, .int .i64 s, .int .i64 e], .int .i64 b] w fun e' w' => e' = .returned (.tuple #[.agg #[.int .i64 0, .int .i64 0, .int .i64 0], .int .i64 2]) ∧ Bel w w' := by
  have H := Lib.hid h
  clear h
  by_cases h : okB n s e = true
  · have hl : b < 0 := by rcases H.out with h' | h' <;> simp_all
    have H2 := Lib.hid h
    clear h
    go_enter Try.func8, Try.ntmps8
    go_wp2_with fail
    refine (check_yes _ _ _ _ H2.out).mono ?_
    rintro e1 w1 ⟨rfl, hb1⟩
    obtain ⟨hc1, hf1, hs1⟩ := bcell hb1
    try simp only [World.size_alloc, World.size_drew, World.size_setCell] at hs1 hc1 hf1
    have hc1_w := fun o => hc1 (w.heap.size) o (by omega)
    have hl1_w : w.heap.size < w1.heap.size := by omega
    have hf1_w := fun o => hf1 (w.heap.size) o (by omega)
    have hc1_wp := fun o => hc1 (w.heap.size + 1) o (by omega)
    have hl1_wp : w.heap.size + 1 < w1.heap.size := by omega
    have hf1_wp := fun o => hf1 (w.heap.size + 1) o (by omega)
    have hw1 : Bel w w1 := by (repeat (first | exact Below.refl _ _ | assumption | exact Bel.refl _ | refine Bel.alloc ?_ _ | refine Bel.drew ?_ | refine Bel.drewN ?_ _ | refine Bel.then_ ?_ (by assumption) | refine Bel.setCell ?_ (by first | (simp; done) | (simp; omega)) _))
    clear hc1 hf1
    obtain ⟨hcw1, hfw1, hsw1⟩ := bcell hw1
    go_wp2
    refine bodyPost_ret (v := .tuple #[.agg #[.int .i64 0, .int .i64 0, .int .i64 0], .int .i64 2]) (by simp [results, Try.results8, go_sem, hc1_w, hc1_wp]) rfl ⟨rfl, by (repeat (first | exact Below.refl _ _ | assumption | exact Bel.refl _ | refine Bel.alloc ?_ _ | refine Bel.drew ?_ | refine Bel.drewN ?_ _ | refine Bel.then_ ?_ (by assumption) | refine Bel.setCell ?_ (by first | (simp; done) | (simp; omega)) _))⟩
  · rw [Bool.not_eq_true] at h
    have H2 := Lib.hid h
    clear h
    go_enter Try.func8, Try.ntmps8
    go_wp2_with fail
    refine (check_no _ _ _ _ H2.out).mono ?_
    rintro e2 w2 ⟨rfl, hb2⟩
    obtain ⟨hc2, hf2, hs2⟩ := bcell hb2
    try simp only [World.size_alloc, World.size_drew, World.size_setCell] at hs2 hc2 hf2
    have hc2_w := fun o => hc2 (w.heap.size) o (by omega)
    have hl2_w : w.heap.size < w2.heap.size := by omega
    have hf2_w := fun o => hf2 (w.heap.size) o (by omega)
    have hc2_wp := fun o => hc2 (w.heap.size + 1) o (by omega)
    have hl2_wp : w.heap.size + 1 < w2.heap.size := by omega
    have hf2_wp := fun o => hf2 (w.heap.size + 1) o (by omega)
    have hw2 : Bel w w2 := by (repeat (first | exact Below.refl _ _ | assumption | exact Bel.refl _ | refine Bel.alloc ?_ _ | refine Bel.drew ?_ | refine Bel.drewN ?_ _ | refine Bel.then_ ?_ (by assumption) | refine Bel.setCell ?_ (by first | (simp; done) | (simp; omega)) _))
    clear hc2 hf2
    obtain ⟨hcw2, hfw2, hsw2⟩ := bcell hw2
    go_wp2
    refine bodyPost_ret (v := .tuple #[.agg #[.int .i64 0, .int .i64 0, .int .i64 0], .int .i64 2]) (by simp [results, Try.results8, go_sem, hc2_w, hc2_wp]) rfl ⟨rfl, by (repeat (first | exact Below.refl _ _ | assumption | exact Bel.refl _ | refine Bel.alloc ?_ _ | refine Bel.drew ?_ | refine Bel.drewN ?_ _ | refine Bel.then_ ?_ (by assumption) | refine Bel.setCell ?_ (by first | (simp; done) | (simp; omega)) _))⟩

set_option maxRecDepth 100000 in
set_option maxHeartbeats 2000000 in
theorem num_any (a : Int) (w : World) : Calls Try.prog 9 #[.int .i64 a] w fun e w' => e = .returned (.int .i64 a) ∧ w = w' := by
  go_enter Try.func9, Try.ntmps9
  go_wp2
  go_ret
  exact ⟨rfl, rfl⟩
set_option maxRecDepth 100000 in
set_option maxHeartbeats 2000000 in
theorem works_any (w : World) : Calls Try.prog 4 #[] w fun e' w' => e' = .returned (.bool true) ∧ Bel w w' := by
  go_enter Try.func4, Try.ntmps4
  go_wp2_with fail
  refine (lag_yes _ _ _ _ (by decide)).mono ?_
  rintro e1 w1 ⟨rfl, hb1⟩
  obtain ⟨hc1, hf1, hs1⟩ := bcell hb1
  try simp only [World.size_alloc, World.size_drew, World.size_setCell] at hs1 hc1 hf1
  have hc1_w := fun o => hc1 (w.heap.size) o (by omega)
  have hl1_w : w.heap.size < w1.heap.size := by omega
  have hf1_w := fun o => hf1 (w.heap.size) o (by omega)
  have hw1 : Bel w w1 := by (repeat (first | exact Below.refl _ _ | assumption | exact Bel.refl _ | refine Bel.alloc ?_ _ | refine Bel.drew ?_ | refine Bel.drewN ?_ _ | refine Bel.then_ ?_ (by assumption) | refine Bel.setCell ?_ (by first | (simp; done) | (simp; omega)) _))
  clear hc1 hf1
  obtain ⟨hcw1, hfw1, hsw1⟩ := bcell hw1
  go_wp2_with fail
  refine (holds_yes _ _ _ _ _ _ _ _ (by decide) (by decide)).mono ?_
  rintro e2 w2 ⟨rfl, hb2⟩
  obtain ⟨hc2, hf2, hs2⟩ := bcell hb2
  try simp only [World.size_alloc, World.size_drew, World.size_setCell] at hs2 hc2 hf2
  have hc2_w := fun o => hc2 (w.heap.size) o (by omega)
  have hl2_w : w.heap.size < w2.heap.size := by omega
  have hf2_w := fun o => hf2 (w.heap.size) o (by omega)
  have hw2 : Bel w w2 := by (repeat (first | exact Below.refl _ _ | assumption | exact Bel.refl _ | refine Bel.alloc ?_ _ | refine Bel.drew ?_ | refine Bel.drewN ?_ _ | refine Bel.then_ ?_ (by assumption) | refine Bel.setCell ?_ (by first | (simp; done) | (simp; omega)) _))
  clear hc2 hf2
  obtain ⟨hcw2, hfw2, hsw2⟩ := bcell hw2
  go_wp2_with fail
  refine (holds_yes _ _ _ _ _ _ _ _ (by decide) (by decide)).mono ?_
  rintro e3 w3 ⟨rfl, hb3⟩
  obtain ⟨hc3, hf3, hs3⟩ := bcell hb3
  try simp only [World.size_alloc, World.size_drew, World.size_setCell] at hs3 hc3 hf3
  have hc3_w := fun o => hc3 (w.heap.size) o (by omega)
  have hl3_w : w.heap.size < w3.heap.size := by omega
  have hf3_w := fun o => hf3 (w.heap.size) o (by omega)
  have hw3 : Bel w w3 := by (repeat (first | exact Below.refl _ _ | assumption | exact Bel.refl _ | refine Bel.alloc ?_ _ | refine Bel.drew ?_ | refine Bel.drewN ?_ _ | refine Bel.then_ ?_ (by assumption) | refine Bel.setCell ?_ (by first | (simp; done) | (simp; omega)) _))
  clear hc3 hf3
  obtain ⟨hcw3, hfw3, hsw3⟩ := bcell hw3
  go_wp2_with fail
  refine (holds_yes _ _ _ _ _ _ _ _ (by decide) (by decide)).mono ?_
  rintro e4 w4 ⟨rfl, hb4⟩
  obtain ⟨hc4, hf4, hs4⟩ := bcell hb4
  try simp only [World.size_alloc, World.size_drew, World.size_setCell] at hs4 hc4 hf4
  have hc4_w := fun o => hc4 (w.heap.size) o (by omega)
  have hl4_w : w.heap.size < w4.heap.size := by omega
  have hf4_w := fun o => hf4 (w.heap.size) o (by omega)
  have hw4 : Bel w w4 := by (repeat (first | exact Below.refl _ _ | assumption | exact Bel.refl _ | refine Bel.alloc ?_ _ | refine Bel.drew ?_ | refine Bel.drewN ?_ _ | refine Bel.then_ ?_ (by assumption) | refine Bel.setCell ?_ (by first | (simp; done) | (simp; omega)) _))
  clear hc4 hf4
  obtain ⟨hcw4, hfw4, hsw4⟩ := bcell hw4
  go_wp2_with fail
  refine (send_yes _ _ _ _ (by decide)).mono ?_
  rintro e5 w5 ⟨rfl, hb5⟩
  obtain ⟨hc5, hf5, hs5⟩ := bcell hb5
  try simp only [World.size_alloc, World.size_drew, World.size_setCell] at hs5 hc5 hf5
  have hc5_w := fun o => hc5 (w.heap.size) o (by omega)
  have hl5_w : w.heap.size < w5.heap.size := by omega
  have hf5_w := fun o => hf5 (w.heap.size) o (by omega)
  have hw5 : Bel w w5 := by (repeat (first | exact Below.refl _ _ | assumption | exact Bel.refl _ | refine Bel.alloc ?_ _ | refine Bel.drew ?_ | refine Bel.drewN ?_ _ | refine Bel.then_ ?_ (by assumption) | refine Bel.setCell ?_ (by first | (simp; done) | (simp; omega)) _))
  clear hc5 hf5
  obtain ⟨hcw5, hfw5, hsw5⟩ := bcell hw5
  go_wp2_with fail
  refine (see_yes _ _ _ _ _ (by decide) (by decide) (by decide)).mono ?_
  rintro e6 w6 ⟨rfl, hb6⟩
  obtain ⟨hc6, hf6, hs6⟩ := bcell hb6
  try simp only [World.size_alloc, World.size_drew, World.size_setCell] at hs6 hc6 hf6
  have hc6_w := fun o => hc6 (w.heap.size) o (by omega)
  have hl6_w : w.heap.size < w6.heap.size := by omega
  have hf6_w := fun o => hf6 (w.heap.size) o (by omega)
  have hc6_w5 := fun o => hc6 (w5.heap.size) o (by omega)
  have hl6_w5 : w5.heap.size < w6.heap.size := by omega
  have hf6_w5 := fun o => hf6 (w5.heap.size) o (by omega)
  have hw6 : Bel w w6 := by (repeat (first | exact Below.refl _ _ | assumption | exact Bel.refl _ | refine Bel.alloc ?_ _ | refine Bel.drew ?_ | refine Bel.drewN ?_ _ | refine Bel.then_ ?_ (by assumption) | refine Bel.setCell ?_ (by first | (simp; done) | (simp; omega)) _))
  clear hc6 hf6
  obtain ⟨hcw6, hfw6, hsw6⟩ := bcell hw6
  go_wp2_with fail
  refine (see_yes _ _ _ _ _ (by decide) (by decide) (by decide)).mono ?_
  rintro e7 w7 ⟨rfl, hb7⟩
  obtain ⟨hc7, hf7, hs7⟩ := bcell hb7
  try simp only [World.size_alloc, World.size_drew, World.size_setCell] at hs7 hc7 hf7
  have hc7_w := fun o => hc7 (w.heap.size) o (by omega)
  have hl7_w : w.heap.size < w7.heap.size := by omega
  have hf7_w := fun o => hf7 (w.heap.size) o (by omega)
  have hc7_w5 := fun o => hc7 (w5.heap.size) o (by omega)
  have hl7_w5 : w5.heap.size < w7.heap.size := by omega
  have hf7_w5 := fun o => hf7 (w5.heap.size) o (by omega)
  have hc7_w6 := fun o => hc7 (w6.heap.size) o (by omega)
  have hl7_w6 : w6.heap.size < w7.heap.size := by omega
  have hf7_w6 := fun o => hf7 (w6.heap.size) o (by omega)
  have hw7 : Bel w w7 := by (repeat (first | exact Below.refl _ _ | assumption | exact Bel.refl _ | refine Bel.alloc ?_ _ | refine Bel.drew ?_ | refine Bel.drewN ?_ _ | refine Bel.then_ ?_ (by assumption) | refine Bel.setCell ?_ (by first | (simp; done) | (simp; omega)) _))
  clear hc7 hf7
  obtain ⟨hcw7, hfw7, hsw7⟩ := bcell hw7
  go_wp2_with fail
  refine (see_late _ _ _ _ _ (by decide) (by decide) (by decide)).mono ?_
  rintro e8 w8 ⟨rfl, hb8⟩
  obtain ⟨hc8, hf8, hs8⟩ := bcell hb8
  try simp only [World.size_alloc, World.size_drew, World.size_setCell] at hs8 hc8 hf8
  have hc8_w := fun o => hc8 (w.heap.size) o (by omega)
  have hl8_w : w.heap.size < w8.heap.size := by omega
  have hf8_w := fun o => hf8 (w.heap.size) o (by omega)
  have hc8_w5 := fun o => hc8 (w5.heap.size) o (by omega)
  have hl8_w5 : w5.heap.size < w8.heap.size := by omega
  have hf8_w5 := fun o => hf8 (w5.heap.size) o (by omega)
  have hc8_w6 := fun o => hc8 (w6.heap.size) o (by omega)
  have hl8_w6 : w6.heap.size < w8.heap.size := by omega
  have hf8_w6 := fun o => hf8 (w6.heap.size) o (by omega)
  have hc8_w7 := fun o => hc8 (w7.heap.size) o (by omega)
  have hl8_w7 : w7.heap.size < w8.heap.size := by omega
  have hf8_w7 := fun o => hf8 (w7.heap.size) o (by omega)
  have hw8 : Bel w w8 := by (repeat (first | exact Below.refl _ _ | assumption | exact Bel.refl _ | refine Bel.alloc ?_ _ | refine Bel.drew ?_ | refine Bel.drewN ?_ _ | refine Bel.then_ ?_ (by assumption) | refine Bel.setCell ?_ (by first | (simp; done) | (simp; omega)) _))
  clear hc8 hf8
  obtain ⟨hcw8, hfw8, hsw8⟩ := bcell hw8
  go_wp2_with (first | (go_at_call 9; refine (num_any _ _).mono ?_; rintro e w' ⟨rfl, rfl⟩) | fail)
  go_ret
  exact ⟨rfl, by (repeat (first | exact Below.refl _ _ | assumption | exact Bel.refl _ | refine Bel.alloc ?_ _ | refine Bel.drew ?_ | refine Bel.drewN ?_ _ | refine Bel.then_ ?_ (by assumption) | refine Bel.setCell ?_ (by first | (simp; done) | (simp; omega)) _))⟩

end Go.Proofs.Ytnajjhgbombboaa
