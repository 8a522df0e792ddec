/-
  CutHolds: for all facts (any slice of them) the law returns true, and the argument reads as it read before. No condition.
-/
import Derived.Test.YtpcgmghacalndaaCm
import Derived.Test.YtpcgmghacalndaaCo
set_option linter.unusedVariables false
set_option linter.unusedSimpArgs false
namespace Go.Proofs.Ytpcgmghacalndaa.cutHolds
open Go.ChangeShapes Go.WideShapes Go.ChangeAt Go.RowKit Go.Joins

set_option maxRecDepth 100000 in
set_option maxHeartbeats 1000000 in
theorem holds_none (w : World) : Calls Try.prog 5 #[.slice none 0 0] w fun e w' => e = .returned (.bool true) ∧ Bel w w' := by
  go_enter Try.func5, Try.ntmps5
  go_wp2
  refine wp_loop_rounds 1 ?_
  rw [rounds_succ]
  go_wp2_with (go_at_call 21; refine (cworks_any _).mono ?_; rintro e w99 ⟨rfl, hb99⟩)
  go_ret
  exact ⟨rfl, hb99⟩
set_option maxRecDepth 100000 in
set_option maxHeartbeats 1000000 in
theorem holds_zero (a : Addr) (cap : Nat) (w : World) : Calls Try.prog 5 #[.slice (some a) 0 cap] w fun e w' => e = .returned (.bool true) ∧ Bel w w' := by
  go_enter Try.func5, Try.ntmps5
  go_wp2
  refine wp_loop_rounds 1 ?_
  rw [rounds_succ]
  go_wp2_with (go_at_call 21; refine (cworks_any _).mono ?_; rintro e w99 ⟨rfl, hb99⟩)
  go_ret
  exact ⟨rfl, hb99⟩
set_option maxRecDepth 100000 in
set_option maxHeartbeats 1000000 in
theorem holds_many (A : Option Addr) (len cap : Nat) (hlen : 80 < len) (hm : len ≤ maxLen) (w : World) : Calls Try.prog 5 #[.slice A len cap] w fun e w' => e = .returned (.bool true) ∧ Bel w w' := by
  unfold maxLen at hm
  go_enter Try.func5, Try.ntmps5
  go_wp2_with (go_at_call 21; refine (cworks_any _).mono ?_; rintro e w99 ⟨rfl, hb99⟩)
  go_ret
  exact ⟨rfl, hb99⟩

set_option maxRecDepth 100000 in
theorem lifted (os : Os) (started : os.Started) (H : Type) (enc : TypeId × Value → H) :
    ReturnsInHanded {} Try.checked os 5 .any (Rows.cutHoldsSpec.pre6 enc Try.prog Try.f5 Rows.cutHoldsRow.domain false) (Rows.cutHoldsSpec.post enc Try.prog Try.f5 false true false false) := by
  refine returnsInHanded_of_change (C := Try.checked) own started (by kernel_rfl) Try.func5
    (ChangeSpec.witness6 (enc := enc) (C := Try.checked) false ⟨#[], #[.slice none 0 0], []⟩ 8 (by kernel_rfl) (by kernel_rfl) (by kernel_rfl) (by kernel_rfl)) ?_
  intro W base args ds gs before hval0 hW hcnd _
  have hval : ∀ (j : Nat) t v, Try.f5.params[j]? = some t → args[j]? = some v → Value.okWide Try.prog W .any base t v := hval0
  have hW' := hW
  obtain ⟨p, q, hA0, hV, rfl, hfz, hnd⟩ := hW
  have hA : DataW.TrodAll enc Try.prog W 0 (fun _ => true) true Try.f5.params.toList args.toList ds p := hA0
  rw [Try.params5] at hA hval
  obtain ⟨v0, vs0, d0, ds0, p0, q0, hargs, rfl, rfl, h0, r0⟩ := trodAll_cons hA
  obtain ⟨rfl, rfl, rfl⟩ := trodAll_nil r0
  obtain rfl : args = #[v0] := by cases args; simp_all
  obtain ⟨rfl, rfl⟩ := trodVars_none hV
  obtain ⟨a0, len0, cap0, rfl⟩ := okWide_slice Try.underlying51 (hval 0 51 v0 rfl rfl)
  obtain ⟨fuel, hf⟩ := h0
  obtain ⟨A, n, cap, hcs, hn, hcap, hnone, hcells⟩ := slice_read (sz := 12) Try.underlying51 (by kernel_rfl) (by omega) hf
  simp [Value.cells] at hcs
  obtain ⟨rfl, rfl, rfl⟩ := hcs
  clear hA0 hval0
  have walk : Calls Try.prog 5 #[.slice a0 len0 cap0] W fun e w' => e = .returned (.bool true) ∧ Bel W w' := by
    by_cases hm : 80 < len0
    · exact holds_many a0 len0 cap0 hm (by omega) W
    · by_cases hz : a0 = none
      · obtain ⟨rfl, rfl⟩ := hnone hz
        subst hz
        exact holds_none W
      · obtain ⟨a, rfl⟩ : ∃ a, a0 = some a := Option.ne_none_iff_exists'.1 hz
        by_cases hl : 0 < len0
        · obtain ⟨b, off, ha, hb, hi⟩ := hcells hl
          cases ha
          refine holds_any _ b off rfl len0 cap0 (by omega) W hb (fun i hlt => ?_)
          obtain ⟨cs', fuel', y, -, hj, ht⟩ := hi i hlt
          obtain ⟨go, made, opn, drained, failed, settled, waits, dropped, swapped, clear, late, stop, rfl⟩ := facts_cells ht
          exact ⟨go, made, opn, drained, failed, settled, waits, dropped, swapped, clear, late, stop, hj⟩
        · obtain rfl : len0 = 0 := by omega
          exact holds_zero a cap0 W
  refine walk.mono fun e W' ⟨he, hb⟩ => ?_
  subst he
  exact ⟨_, rfl, law_post laidOut (by kernel_rfl) (by kernel_rfl) Try.underlying4 rfl hW' rfl hb⟩

theorem proved : Rows.CutHoldsSaid :=
  OpenClaim.holds_of_wide 5 Try.f5 rfl rfl rfl rfl rfl rfl rfl ⟨rfl, rfl, rfl, rfl, rfl⟩ rfl rfl rfl rfl rfl (by kernel_rfl) Try.func5 (by kernel_rfl)
    (of_decide_eq_true (by kernel_rfl)) (by unfold Func.isWrapper; first | (rw [if_pos (by decide +kernel)]; kernel_rfl) | (rw [if_neg (by decide +kernel)]; exact ⟨rfl, rfl⟩))
    (fun os started H enc _ => lifted os started H enc)
#print axioms proved
end Go.Proofs.Ytpcgmghacalndaa.cutHolds
