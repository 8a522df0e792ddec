/-
  Package control: Check.
-/
import Derived.Test.YtnajjhgbombboaaCtb
set_option linter.unusedVariables false
set_option linter.unusedSimpArgs false
set_option linter.unusedVariables false
set_option linter.unusedSimpArgs false
namespace Go.Proofs.Ytnajjhgbombboaa
open Go.RowKit

/-- Progress, as it comes: what it has, and the list of parked ones. -/
structure Prg where
  ph : Int
  cu : ByteArray
  fu : Bool
  sg : Int
  pt : Int
  bt : Int
def Prg.v (p : Prg) (A : Option Addr) (n c : Nat) : Value := .agg #[.int .i64 p.ph, .string p.cu, .bool p.fu, .int .i64 p.sg, .int .i64 p.pt, .int .i64 p.bt, .slice A n c]
def Prg.fine (p : Prg) : Prop := 1 ≤ p.ph ∧ p.ph ≤ 3 ∧ p.cu.size ≤ 190 ∧ 1 ≤ p.sg ∧ p.sg ≤ 1099511627776 ∧ 0 ≤ p.pt ∧ p.pt ≤ 1099511627776 ∧ 0 ≤ p.bt ∧ p.bt ≤ 1099511627776
def btw (n a : Int) : Bool := decide (a ≤ n) && decide (n ≤ 1099511627776)
theorem btw_of {n a : Int} (h : btw n a = true) : a ≤ n ∧ n ≤ 1099511627776 := by simpa [btw] using h
theorem take_all {ks : List ByteArray} {k : Nat} {x : ByteArray} (hx : ks[k]? = some x) (h : ∀ y ∈ ks.take k, y.size ≤ 190) (h1 : x.size ≤ 190) : ∀ y ∈ ks.take (k + 1), y.size ≤ 190 := by
  have hl : k < ks.length := (List.getElem?_eq_some_iff.1 hx).1
  have he : ks[k] = x := (List.getElem?_eq_some_iff.1 hx).2
  rw [List.take_succ_eq_append_getElem hl, he]
  intro y hy
  rcases List.mem_append.1 hy with h' | h'
  · exact h y h'
  · simp at h'; subst h'; exact h1
theorem ctCheckC_any (n a : Int) (w : World) : Calls Try.prog 28 #[.int .i64 n, .int .i64 a] w fun e w' => e = .returned (.bool (btw n a)) ∧ w = w' := by
  go_enter Try.func28, Try.ntmps28
  go_wp2
  all_goals
    go_ret
    exact ⟨ret_bool (by simp [btw]; omega), rfl⟩
set_option maxRecDepth 100000 in
set_option maxHeartbeats 2000000 in
theorem ctCheck_any (p : Prg) (ks : List ByteArray) (A : Option Addr) (c : Nat) (w : World) (hr : Reads w w.heap.size 1 A ks.length (ks.map .string)) (hn : ks.length ≤ 20) :
    Calls Try.prog 17 #[p.v A ks.length c] w fun e w' => ∃ j : Int, e = .returned (.int .i64 j) ∧ (j = 0 → p.fine ∧ ∀ x ∈ ks, x.size ≤ 190) ∧ Bel w w' := by
  obtain ⟨ph, cu, fu, sg, pt, bt⟩ := p
  unfold Prg.v Prg.fine
  simp only
  have HR := Lib.hid hr
  clear hr
  go_enter Try.func17, Try.ntmps17
  go_wp2
  all_goals
    go_loopw [4, 50] (fun v i wr => ∃ (k : Nat) (b : Bool), k ≤ ks.length ∧ i = .int .i64 k ∧ v = .bool b ∧ (b = true → (1 ≤ ph ∧ ph ≤ 3 ∧ cu.size ≤ 190 ∧ 1 ≤ sg ∧ sg ≤ 1099511627776 ∧ 0 ≤ pt ∧ pt ≤ 1099511627776 ∧ 0 ≤ bt ∧ bt ≤ 1099511627776) ∧ ∀ x ∈ ks.take k, x.size ≤ 190) ∧ Bel w wr ∧ Blk wr w.heap.size 28 #[.int .i64 ph, .string cu, .bool fu, .int .i64 sg, .int .i64 pt, .int .i64 bt, .slice A ks.length c]) (fun _ i _ => ks.length - (intOf i).toNat)
    case atStart => exact ⟨0, _, Nat.zero_le _, rfl, rfl, (by intro hb; refine ⟨?_, by simp⟩; first | (exfalso; revert hb; simp; done) | omega), by (repeat (first | exact Below.refl _ _ | assumption | exact Bel.refl _ | refine Bel.alloc ?_ _ | refine Bel.drew ?_ | refine Bel.drewN ?_ _ | refine Bel.then_ ?_ (by assumption) | refine Bel.setCell ?_ (by first | (simp; done) | (simp; omega)) _)), Blk.new _ _ _⟩
    case round =>
      obtain ⟨k, b, hk, rfl, rfl, hfine, hB, hBk⟩ := hrel
      by_cases hlt : k < ks.length
      · obtain ⟨x, hx⟩ : ∃ x, ks[k]? = some x := ⟨_, List.getElem?_eq_getElem hlt⟩
        obtain ⟨ad, u, rfl, hbl, hu, hcell⟩ := (HR.out.keep (w' := wr) fun p hp => hB.cell hp).at_ hlt
        rw [List.getElem?_map, hx] at hu
        simp only [Option.map_some, Option.some.injEq] at hu
        subst hu
        have hpk : wr.cell? ⟨w.heap.size, 6, none⟩ = some (.slice (some ad) ks.length c) := hBk.cell 6
        cases b with
        | false =>
          go_wp2
          all_goals
            go_round
            case rel => exact ⟨k + 1, false, by omega, by go_num, rfl, (by intro hb; cases hb), hB, hBk⟩
            case measure => simp [intOf]; omega
        | true =>
          have hf := hfine rfl
          clear hfine
          by_cases h0 : k = 0
          · have hk0 : ((k : Int) == 0) = true := by simp; omega
            clear h0
            go_wp2
            all_goals
              go_round
              case rel => exact ⟨k + 1, _, by omega, by go_num, rfl, (by intro hb; first | (cases hb; done) | exact ⟨hf.1, take_all hx hf.2 (by omega)⟩), hB, hBk⟩
              case measure => simp [intOf]; omega
          · obtain ⟨j, hj⟩ : ∃ j, k = j + 1 := ⟨k - 1, by omega⟩
            have hk0 : ((k : Int) == 0) = false := by simp; omega
            obtain ⟨ad', u', e', hbl', hu', hcell'⟩ := (HR.out.keep (w' := wr) fun p hp => hB.cell hp).at_ (show j < ks.length by omega)
            cases e'
            obtain ⟨y, hy⟩ : ∃ y, ks[j]? = some y := ⟨_, List.getElem?_eq_getElem (by omega)⟩
            rw [List.getElem?_map, hy] at hu'
            simp only [Option.map_some, Option.some.injEq] at hu'
            subst hu'
            have hkj : (k : Int) - 1 = (j : Int) := by omega
            have hjl : j < ks.length := by omega
            clear h0 hj
            go_wp2
            all_goals
              go_round
              case rel => exact ⟨k + 1, _, by omega, by go_num, rfl, (by intro hb; first | (cases hb; done) | exact ⟨hf.1, take_all hx hf.2 (by omega)⟩), hB, hBk⟩
              case measure => simp [intOf]; omega
      · cases b with
        | false =>
          go_wp2
          go_ret
          exact ⟨2, rfl, (by intro h; cases h), hB⟩
        | true =>
          have hf := hfine rfl
          clear hfine
          go_wp2
          go_ret
          exact ⟨0, rfl, (fun _ => ⟨hf.1, by have := hf.2; rwa [List.take_of_length_le (by omega)] at this⟩), hB⟩
end Go.Proofs.Ytnajjhgbombboaa
