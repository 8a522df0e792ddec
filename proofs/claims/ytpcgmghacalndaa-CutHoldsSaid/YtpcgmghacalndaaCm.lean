/-
  The law CutHolds's walk.
-/
import Derived.Test.YtpcgmghacalndaaCn
set_option linter.unusedVariables false
set_option linter.unusedSimpArgs false
namespace Go.Proofs.Ytpcgmghacalndaa
open Go.RowKit
set_option maxRecDepth 100000 in
set_option maxHeartbeats 1000000 in
theorem holds_any (a : Addr) (b off : Nat) (ha : a = ⟨b, off, none⟩) (len cap : Nat) (hlen : len ≤ 80) (w : World) (hb : b < w.heap.size)
    (hcells : ∀ i, i < len → ∃ go made opn drained failed settled waits dropped swapped clear late stop : Bool, ∀ j v, [.bool go, .bool made, .bool opn, .bool drained, .bool failed, .bool settled, .bool waits, .bool dropped, .bool swapped, .bool clear, .bool late, .bool stop][j]? = some v → w.cell? ⟨b, off + i * 12 + j, none⟩ = some v) :
    Calls Try.prog 5 #[.slice (some a) len cap] w fun e w' => e = .returned (.bool true) ∧ Bel w w' := by
  subst ha
  have HC := Lib.hid hcells
  clear hcells
  go_enter Try.func5, Try.ntmps5
  go_wp2
  go_loopw [3, 4, 5] (fun s q i wr => ∃ (sv qv : Int) (k : Nat), s = .int .i64 sv ∧ q = .int .i64 qv ∧ i = .int .i64 k ∧ k ≤ len ∧ 0 ≤ sv ∧ sv ≤ 9 ∧ 0 ≤ qv ∧ qv ≤ 9 ∧ (7 < sv ∨ qv = sv) ∧ Bel w wr) (fun _ _ i _ => len - (intOf i).toNat)
  case atStart => exact ⟨0, 0, 0, rfl, rfl, rfl, Nat.zero_le _, by omega, by omega, by omega, by omega, by omega, Bel.refl _⟩
  case round =>
    obtain ⟨sv, qv, k, rfl, rfl, rfl, hk, hs0, hs9, hq0, hq9, hqs, hbel⟩ := hrel
    by_cases hlt : k < len
    · obtain ⟨go, made, opn, drained, failed, settled, waits, dropped, swapped, clear, late, stop, hcells⟩ := HC.out k hlt
      obtain ⟨n, hn0, hn9, hway, hcall⟩ := next_at sv hs0 hs9 go made opn drained failed settled waits dropped swapped clear late stop
      have HCALL := Lib.hid hcall
      clear hcall
      have HQ := Lib.hid hqs
      clear hqs
      have c0 : wr.cell? ⟨b, off + k * 12, none⟩ = some (.bool go) := (Below.cell hbel (p := ⟨b, _, none⟩) hb).trans (hcells 0 _ rfl)
      have c1 : wr.cell? ⟨b, off + k * 12 + 1, none⟩ = some (.bool made) := (Below.cell hbel (p := ⟨b, _, none⟩) hb).trans (hcells 1 _ rfl)
      have c2 : wr.cell? ⟨b, off + k * 12 + 2, none⟩ = some (.bool opn) := (Below.cell hbel (p := ⟨b, _, none⟩) hb).trans (hcells 2 _ rfl)
      have c3 : wr.cell? ⟨b, off + k * 12 + 3, none⟩ = some (.bool drained) := (Below.cell hbel (p := ⟨b, _, none⟩) hb).trans (hcells 3 _ rfl)
      have c4 : wr.cell? ⟨b, off + k * 12 + 4, none⟩ = some (.bool failed) := (Below.cell hbel (p := ⟨b, _, none⟩) hb).trans (hcells 4 _ rfl)
      have c5 : wr.cell? ⟨b, off + k * 12 + 5, none⟩ = some (.bool settled) := (Below.cell hbel (p := ⟨b, _, none⟩) hb).trans (hcells 5 _ rfl)
      have c6 : wr.cell? ⟨b, off + k * 12 + 6, none⟩ = some (.bool waits) := (Below.cell hbel (p := ⟨b, _, none⟩) hb).trans (hcells 6 _ rfl)
      have c7 : wr.cell? ⟨b, off + k * 12 + 7, none⟩ = some (.bool dropped) := (Below.cell hbel (p := ⟨b, _, none⟩) hb).trans (hcells 7 _ rfl)
      have c8 : wr.cell? ⟨b, off + k * 12 + 8, none⟩ = some (.bool swapped) := (Below.cell hbel (p := ⟨b, _, none⟩) hb).trans (hcells 8 _ rfl)
      have c9 : wr.cell? ⟨b, off + k * 12 + 9, none⟩ = some (.bool clear) := (Below.cell hbel (p := ⟨b, _, none⟩) hb).trans (hcells 9 _ rfl)
      have c10 : wr.cell? ⟨b, off + k * 12 + 10, none⟩ = some (.bool late) := (Below.cell hbel (p := ⟨b, _, none⟩) hb).trans (hcells 10 _ rfl)
      have c11 : wr.cell? ⟨b, off + k * 12 + 11, none⟩ = some (.bool stop) := (Below.cell hbel (p := ⟨b, _, none⟩) hb).trans (hcells 11 _ rfl)

      clear hcells
      go_wp2_with fail
      refine (HCALL.out _).mono ?_
      rintro e1 w1 ⟨rfl, hb1⟩
      have hbw : Bel w w1 := Bel.then_ hbel hb1
      have hsz := hbel.size
      have d8 : w1.cell? ⟨b, off + k * 12 + 8, none⟩ = some (.bool swapped) := (Below.cell hb1 (p := ⟨b, _, none⟩) (by show b < _; omega)).trans c8
      have d10 : w1.cell? ⟨b, off + k * 12 + 10, none⟩ = some (.bool late) := (Below.cell hb1 (p := ⟨b, _, none⟩) (by show b < _; omega)).trans c10
      have d11 : w1.cell? ⟨b, off + k * 12 + 11, none⟩ = some (.bool stop) := (Below.cell hb1 (p := ⟨b, _, none⟩) (by show b < _; omega)).trans c11
      clear c0 c1 c2 c3 c4 c5 c6 c7 c8 c9 c10 c11 hsz
      rcases hway with ⟨rfl, hwb⟩ | ⟨rfl, rfl, rfl⟩ | ⟨rfl, h1, h2⟩ | ⟨rfl, rfl⟩ | ⟨rfl, h6, hwb⟩
      · have HW := Lib.hid hwb
        clear hwb
        by_cases hbl : 2 ≤ n ∧ n ≤ 7
        · have hl : (late || stop) = false := by have := HW.out; rcases this with h | h | h; exact h; omega; omega
          obtain ⟨rfl, rfl⟩ : late = false ∧ stop = false := by rw [Bool.or_eq_false_iff] at hl; exact hl
          clear hl
          obtain ⟨hb1l, hb2l⟩ := hbl
          go_wp2_with (first | (go_at_call 18; refine (cnum_any _ _).mono ?_; rintro e w' ⟨rfl, rfl⟩) | (go_at_call 19; (with_reducible refine (blocks_yes _ ?h _).mono ?_); (case h => omega); rintro e w' ⟨rfl, rfl⟩) | (go_at_call 19; (with_reducible refine (blocks_no _ ?h _).mono ?_); (case h => omega); rintro e w' ⟨rfl, rfl⟩))
          go_roundw
          case rel => exact ⟨_, _, k + 1, rfl, rfl, by go_num, by omega, by omega, by omega, by omega, by omega, by first | exact Or.inr rfl | omega | (have := HQ.out; omega), hbw⟩
          case measure => simp [intOf]; omega
        · have hbl' : n < 2 ∨ 7 < n := by omega
          clear hbl
          cases late <;> cases stop
          all_goals
            go_wp2_with (first | (go_at_call 18; refine (cnum_any _ _).mono ?_; rintro e w' ⟨rfl, rfl⟩) | (go_at_call 19; (with_reducible refine (blocks_yes _ ?h _).mono ?_); (case h => omega); rintro e w' ⟨rfl, rfl⟩) | (go_at_call 19; (with_reducible refine (blocks_no _ ?h _).mono ?_); (case h => omega); rintro e w' ⟨rfl, rfl⟩))
            go_roundw
            case rel => exact ⟨_, _, k + 1, rfl, rfl, by go_num, by omega, by omega, by omega, by omega, by omega, by first | exact Or.inr rfl | omega | (have := HQ.out; omega), hbw⟩
            case measure => simp [intOf]; omega
      · obtain rfl : qv = 7 := by have := HQ.out; omega
        cases late <;> cases stop
        all_goals
          go_wp2_with (first | (go_at_call 18; refine (cnum_any _ _).mono ?_; rintro e w' ⟨rfl, rfl⟩) | (go_at_call 19; (with_reducible refine (blocks_yes _ ?h _).mono ?_); (case h => omega); rintro e w' ⟨rfl, rfl⟩) | (go_at_call 19; (with_reducible refine (blocks_no _ ?h _).mono ?_); (case h => omega); rintro e w' ⟨rfl, rfl⟩))
          go_roundw
          case rel => exact ⟨_, _, k + 1, rfl, rfl, by go_num, by omega, by omega, by omega, by omega, by omega, by first | exact Or.inr rfl | omega | (have := HQ.out; omega), hbw⟩
          case measure => simp [intOf]; omega
      · by_cases hbl : 2 ≤ sv
        · cases late <;> cases stop
          all_goals
            go_wp2_with (first | (go_at_call 18; refine (cnum_any _ _).mono ?_; rintro e w' ⟨rfl, rfl⟩) | (go_at_call 19; (with_reducible refine (blocks_yes _ ?h _).mono ?_); (case h => omega); rintro e w' ⟨rfl, rfl⟩) | (go_at_call 19; (with_reducible refine (blocks_no _ ?h _).mono ?_); (case h => omega); rintro e w' ⟨rfl, rfl⟩))
            go_roundw
            case rel => exact ⟨_, _, k + 1, rfl, rfl, by go_num, by omega, by omega, by omega, by omega, by omega, by first | exact Or.inr rfl | omega | (have := HQ.out; omega), hbw⟩
            case measure => simp [intOf]; omega
        · cases late <;> cases stop
          all_goals
            go_wp2_with (first | (go_at_call 18; refine (cnum_any _ _).mono ?_; rintro e w' ⟨rfl, rfl⟩) | (go_at_call 19; (with_reducible refine (blocks_yes _ ?h _).mono ?_); (case h => omega); rintro e w' ⟨rfl, rfl⟩) | (go_at_call 19; (with_reducible refine (blocks_no _ ?h _).mono ?_); (case h => omega); rintro e w' ⟨rfl, rfl⟩))
            go_roundw
            case rel => exact ⟨_, _, k + 1, rfl, rfl, by go_num, by omega, by omega, by omega, by omega, by omega, by first | exact Or.inr rfl | omega | (have := HQ.out; omega), hbw⟩
            case measure => simp [intOf]; omega
      · cases late <;> cases stop
        all_goals
          go_wp2_with (first | (go_at_call 18; refine (cnum_any _ _).mono ?_; rintro e w' ⟨rfl, rfl⟩) | (go_at_call 19; (with_reducible refine (blocks_yes _ ?h _).mono ?_); (case h => omega); rintro e w' ⟨rfl, rfl⟩) | (go_at_call 19; (with_reducible refine (blocks_no _ ?h _).mono ?_); (case h => omega); rintro e w' ⟨rfl, rfl⟩))
          go_roundw
          case rel => exact ⟨_, _, k + 1, rfl, rfl, by go_num, by omega, by omega, by omega, by omega, by omega, by first | exact Or.inr rfl | omega | (have := HQ.out; omega), hbw⟩
          case measure => simp [intOf]; omega
      · obtain rfl : qv = sv := by have := HQ.out; omega
        have z1 : (qv + 1 == qv) = false := beq_eq_false_iff_ne.2 (by omega)
        have z2 : (qv + 1 == 9) = false := beq_eq_false_iff_ne.2 (by omega)
        have z3 : (qv + 1 == 8) = false := beq_eq_false_iff_ne.2 (by omega)
        have z4 : (qv + 1 == 0) = false := beq_eq_false_iff_ne.2 (by omega)
        have HW := Lib.hid hwb
        clear hwb
        by_cases hbl : 1 ≤ qv
        · have hl : (late || stop) = false := by have := HW.out; rcases this with h | h; exact h; omega
          obtain ⟨rfl, rfl⟩ : late = false ∧ stop = false := by rw [Bool.or_eq_false_iff] at hl; exact hl
          clear hl
          by_cases hb2l : 2 ≤ qv
          · go_wp2_with (first | (go_at_call 18; refine (cnum_any _ _).mono ?_; rintro e w' ⟨rfl, rfl⟩) | (go_at_call 19; (with_reducible refine (blocks_yes _ ?h _).mono ?_); (case h => omega); rintro e w' ⟨rfl, rfl⟩) | (go_at_call 19; (with_reducible refine (blocks_no _ ?h _).mono ?_); (case h => omega); rintro e w' ⟨rfl, rfl⟩))
            go_roundw
            case rel => exact ⟨_, _, k + 1, rfl, rfl, by go_num, by omega, by omega, by omega, by omega, by omega, by first | exact Or.inr rfl | omega | (have := HQ.out; omega), hbw⟩
            case measure => simp [intOf]; omega
          · go_wp2_with (first | (go_at_call 18; refine (cnum_any _ _).mono ?_; rintro e w' ⟨rfl, rfl⟩) | (go_at_call 19; (with_reducible refine (blocks_yes _ ?h _).mono ?_); (case h => omega); rintro e w' ⟨rfl, rfl⟩) | (go_at_call 19; (with_reducible refine (blocks_no _ ?h _).mono ?_); (case h => omega); rintro e w' ⟨rfl, rfl⟩))
            go_roundw
            case rel => exact ⟨_, _, k + 1, rfl, rfl, by go_num, by omega, by omega, by omega, by omega, by omega, by first | exact Or.inr rfl | omega | (have := HQ.out; omega), hbw⟩
            case measure => simp [intOf]; omega
        · cases late <;> cases stop
          all_goals
            go_wp2_with (first | (go_at_call 18; refine (cnum_any _ _).mono ?_; rintro e w' ⟨rfl, rfl⟩) | (go_at_call 19; (with_reducible refine (blocks_yes _ ?h _).mono ?_); (case h => omega); rintro e w' ⟨rfl, rfl⟩) | (go_at_call 19; (with_reducible refine (blocks_no _ ?h _).mono ?_); (case h => omega); rintro e w' ⟨rfl, rfl⟩))
            go_roundw
            case rel => exact ⟨_, _, k + 1, rfl, rfl, by go_num, by omega, by omega, by omega, by omega, by omega, by first | exact Or.inr rfl | omega | (have := HQ.out; omega), hbw⟩
            case measure => simp [intOf]; omega
    · go_wp2_with (go_at_call 21; refine (cworks_any _).mono ?_; rintro e w99 ⟨rfl, hb99⟩)
      go_ret
      exact ⟨rfl, by (repeat (first | exact Below.refl _ _ | assumption | exact Bel.refl _ | refine Bel.alloc ?_ _ | refine Bel.drew ?_ | refine Bel.drewN ?_ _ | refine Bel.then_ ?_ (by assumption) | refine Bel.setCell ?_ (by first | (simp; done) | (simp; omega)) _))⟩
end Go.Proofs.Ytpcgmghacalndaa
