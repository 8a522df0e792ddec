/-
  CutNexts: for every step and all facts the law returns true, and the arguments read as they read before. No condition.
-/
import Derived.Test.YtpcgmghacalndaaCj
import Derived.Test.YtpcgmghacalndaaCk
import Derived.Test.YtpcgmghacalndaaCo
set_option linter.unusedVariables false
set_option linter.unusedSimpArgs false
namespace Go.Proofs.Ytpcgmghacalndaa.cutNexts
open Go.ChangeShapes Go.WideShapes Go.ChangeAt Go.RowKit Go.Joins

theorem nexts_any (s : Int) (go made opn drained failed settled waits dropped swapped clear late stop : Bool) (w : World) : Calls Try.prog 4 #[.int .i64 s, .agg #[.bool go, .bool made, .bool opn, .bool drained, .bool failed, .bool settled, .bool waits, .bool dropped, .bool swapped, .bool clear, .bool late, .bool stop]] w fun e w' => e = .returned (.bool true) ∧ Bel w w' := by
  by_cases h : s < 0 ∨ 9 < s
  · exact nexts_out s h go made opn drained failed settled waits dropped swapped clear late stop w
  · have h' : s = 0 ∨ s = 1 ∨ s = 2 ∨ s = 3 ∨ s = 4 ∨ s = 5 ∨ s = 6 ∨ s = 7 ∨ s = 8 ∨ s = 9 := by omega
    rcases h' with rfl | rfl | rfl | rfl | rfl | rfl | rfl | rfl | rfl | rfl
    · exact nexts0 go made opn drained failed settled waits dropped swapped clear late stop w
    · exact nexts1 go made opn drained failed settled waits dropped swapped clear late stop w
    · exact nexts2 go made opn drained failed settled waits dropped swapped clear late stop w
    · exact nexts3 go made opn drained failed settled waits dropped swapped clear late stop w
    · exact nexts4 go made opn drained failed settled waits dropped swapped clear late stop w
    · exact nexts5 go made opn drained failed settled waits dropped swapped clear late stop w
    · exact nexts6 go made opn drained failed settled waits dropped swapped clear late stop w
    · exact nexts7 go made opn drained failed settled waits dropped swapped clear late stop w
    · exact nexts8 go made opn drained failed settled waits dropped swapped clear late stop w
    · exact nexts9 go made opn drained failed settled waits dropped swapped clear late stop w

set_option maxRecDepth 100000 in
theorem lifted (os : Os) (started : os.Started) (H : Type) (enc : TypeId × Value → H) :
    ReturnsInHanded {} Try.checked os 4 .any (Rows.cutNextsSpec.pre6 enc Try.prog Try.f4 Rows.cutNextsRow.domain false) (Rows.cutNextsSpec.post enc Try.prog Try.f4 false true false false) := by
  refine returnsInHanded_of_change (C := Try.checked) own started (by kernel_rfl) Try.func4
    (ChangeSpec.witness6 (enc := enc) (C := Try.checked) false ⟨#[], #[.int .i64 0, .agg #[.bool false, .bool false, .bool false, .bool false, .bool false, .bool false, .bool false, .bool false, .bool false, .bool false, .bool false, .bool false]], []⟩ 8 (by kernel_rfl) (by kernel_rfl) (by kernel_rfl) (by kernel_rfl)) ?_
  intro W base args ds gs before hval0 hW hcnd _
  have hval : ∀ (j : Nat) t v, Try.f4.params[j]? = some t → args[j]? = some v → Value.okWide Try.prog W .any base t v := hval0
  have hW' := hW
  obtain ⟨p, q, hA0, hV, rfl, hfz, hnd⟩ := hW
  have hA : DataW.TrodAll enc Try.prog W 0 (fun _ => true) true Try.f4.params.toList args.toList ds p := hA0
  rw [Try.params4] at hA hval
  obtain ⟨v0, vs0, d0, ds0, p0, q0, hargs, rfl, rfl, h0, r0⟩ := trodAll_cons hA
  obtain ⟨v1, vs1, d1, ds1, p1, q1, rfl, rfl, rfl, h1, r1⟩ := trodAll_cons r0
  obtain ⟨rfl, rfl, rfl⟩ := trodAll_nil r1
  obtain rfl : args = #[v0, v1] := by cases args; simp_all
  obtain ⟨rfl, rfl⟩ := trodVars_none hV
  obtain ⟨l, rfl, -, -, -⟩ := open_int Try.underlying38 (hval 0 38 v0 rfl rfl) h0
  obtain ⟨cs, rfl, -⟩ := okWide_struct Try.underlying40 (hval 1 40 v1 rfl rfl)
  obtain ⟨fuel, hf⟩ := h1
  obtain ⟨go, made, opn, drained, failed, settled, waits, dropped, swapped, clear, late, stop, hcs⟩ := facts_cells hf
  obtain rfl : cs = #[.bool go, .bool made, .bool opn, .bool drained, .bool failed, .bool settled, .bool waits, .bool dropped, .bool swapped, .bool clear, .bool late, .bool stop] := by cases cs; simp [Value.cells] at hcs; simp [hcs]
  clear hA0 hval0
  refine (nexts_any l go made opn drained failed settled waits dropped swapped clear late stop W).mono fun e W' ⟨he, hb⟩ => ?_
  subst he
  exact ⟨_, rfl, law_post laidOut (by kernel_rfl) (by kernel_rfl) Try.underlying4 rfl hW' rfl hb⟩

theorem proved : Rows.CutNextsSaid :=
  OpenClaim.holds_of_wide 4 Try.f4 rfl rfl rfl rfl rfl rfl rfl ⟨rfl, rfl, rfl, rfl, rfl⟩ rfl rfl rfl rfl rfl (by kernel_rfl) Try.func4 (by kernel_rfl)
    (of_decide_eq_true (by kernel_rfl)) (by unfold Func.isWrapper; first | (rw [if_pos (by decide +kernel)]; kernel_rfl) | (rw [if_neg (by decide +kernel)]; exact ⟨rfl, rfl⟩))
    (fun os started H enc _ => lifted os started H enc)
#print axioms proved
end Go.Proofs.Ytpcgmghacalndaa.cutNexts
