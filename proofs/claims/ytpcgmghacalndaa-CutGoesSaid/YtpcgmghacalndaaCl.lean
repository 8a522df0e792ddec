/-
  cut.Next at whatever step: the ways on.
-/
import Derived.Test.YtpcgmghacalndaaCw
set_option linter.unusedVariables false
set_option linter.unusedSimpArgs false
namespace Go.Proofs.Ytpcgmghacalndaa
open Go.RowKit

theorem nextS_range (s : Int) (h0 : 0 ≤ s) (h9 : s ≤ 9) (go made opn drained failed settled waits dropped swapped clear late stop : Bool) : 0 ≤ nextS s go made opn drained failed settled waits dropped swapped clear late stop ∧ nextS s go made opn drained failed settled waits dropped swapped clear late stop ≤ 9 := by
  unfold nextS; split
  · omega
  · split
    · omega
    · split
      · omega
      · split
        · omega
        · rename_i h1 h2 h3 h4
          by_cases e : s = 9
          · subst e; simp [onS] at h3
          · omega
/-- The ways on from a step. -/
inductive Way (s : Int) (swapped late stop : Bool) (n : Int) : Prop
  | stay (h : n = s) (hb : (late || stop) = false ∨ s < 2 ∨ 7 < s)
  | done (h : n = 9) (h7 : s = 7) (hsw : swapped = true)
  | back (h : n = 8) (h1 : 1 ≤ s) (h2 : s ≤ 7)
  | none (h : n = 0) (h8 : s = 8)
  | on (h : n = s + 1) (h6 : s ≤ 6) (hb : (late || stop) = false ∨ s < 1)
theorem way_any (s : Int) (h0 : 0 ≤ s) (h9 : s ≤ 9) (go made opn drained failed settled waits dropped swapped clear late stop : Bool) : Way s swapped late stop (nextS s go made opn drained failed settled waits dropped swapped clear late stop) := by
  unfold nextS
  by_cases a1 : s = 7 ∧ swapped = true
  · rw [if_pos a1]; exact .done rfl a1.1 a1.2
  · rw [if_neg a1]
    by_cases a2 : (1 ≤ s ∧ s ≤ 7 ∧ (late = true ∨ stop = true)) ∨ (s = 4 ∧ failed = true)
    · rw [if_pos a2]; exact .back rfl (by omega) (by omega)
    · rw [if_neg a2]
      have hb : (late || stop) = false ∨ s < 1 ∨ 7 < s := by
        cases late <;> cases stop <;> simp_all <;> omega
      by_cases a3 : onS s go made opn drained failed settled waits dropped swapped clear late stop = false
      · rw [if_pos a3]; exact .stay rfl (by rcases hb with h | h | h; exact .inl h; right; omega; right; omega)
      · rw [if_neg a3]
        by_cases a4 : s = 8
        · rw [if_pos a4]; exact .none rfl a4
        · rw [if_neg a4]
          have h7 : s ≠ 7 := fun e => by subst e; simp [onS] at a3; simp_all
          have h99 : s ≠ 9 := fun e => by subst e; simp [onS] at a3
          exact .on rfl (by omega) (by rcases hb with h | h | h; exact .inl h; exact .inr h; omega)

theorem next_any (s : Int) (h0 : 0 ≤ s) (h9 : s ≤ 9) (go made opn drained failed settled waits dropped swapped clear late stop : Bool) (w : World) : Calls Try.prog 14 #[.int .i64 s, .agg #[.bool go, .bool made, .bool opn, .bool drained, .bool failed, .bool settled, .bool waits, .bool dropped, .bool swapped, .bool clear, .bool late, .bool stop]] w fun e w' => e = .returned (.tuple #[.int .i64 (nextS s go made opn drained failed settled waits dropped swapped clear late stop), .int .i64 0]) ∧ Bel w w' := by
  have h' : s = 0 ∨ s = 1 ∨ s = 2 ∨ s = 3 ∨ s = 4 ∨ s = 5 ∨ s = 6 ∨ s = 7 ∨ s = 8 ∨ s = 9 := by omega
  rcases h' with rfl | rfl | rfl | rfl | rfl | rfl | rfl | rfl | rfl | rfl
  · exact next0 go made opn drained failed settled waits dropped swapped clear late stop w
  · exact next1 go made opn drained failed settled waits dropped swapped clear late stop w
  · exact next2 go made opn drained failed settled waits dropped swapped clear late stop w
  · exact next3 go made opn drained failed settled waits dropped swapped clear late stop w
  · exact next4 go made opn drained failed settled waits dropped swapped clear late stop w
  · exact next5 go made opn drained failed settled waits dropped swapped clear late stop w
  · exact next6 go made opn drained failed settled waits dropped swapped clear late stop w
  · exact next7 go made opn drained failed settled waits dropped swapped clear late stop w
  · exact next8 go made opn drained failed settled waits dropped swapped clear late stop w
  · exact next9 go made opn drained failed settled waits dropped swapped clear late stop w

/-- As next_any, the answer under a name of its own. -/
theorem next_at (s : Int) (h0 : 0 ≤ s) (h9 : s ≤ 9) (go made opn drained failed settled waits dropped swapped clear late stop : Bool) : ∃ n, 0 ≤ n ∧ n ≤ 9 ∧ Way s swapped late stop n ∧ ∀ w, Calls Try.prog 14 #[.int .i64 s, .agg #[.bool go, .bool made, .bool opn, .bool drained, .bool failed, .bool settled, .bool waits, .bool dropped, .bool swapped, .bool clear, .bool late, .bool stop]] w fun e w' => e = .returned (.tuple #[.int .i64 n, .int .i64 0]) ∧ Bel w w' :=
  ⟨_, (nextS_range s h0 h9 go made opn drained failed settled waits dropped swapped clear late stop).1, (nextS_range s h0 h9 go made opn drained failed settled waits dropped swapped clear late stop).2, way_any s h0 h9 go made opn drained failed settled waits dropped swapped clear late stop, next_any s h0 h9 go made opn drained failed settled waits dropped swapped clear late stop⟩
end Go.Proofs.Ytpcgmghacalndaa
