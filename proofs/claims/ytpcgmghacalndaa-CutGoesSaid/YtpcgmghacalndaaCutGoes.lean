/-
  CutGoes: for every step, all facts and every number the law returns true, and the arguments read as they read before. No condition.
-/
import Derived.Test.YtpcgmghacalndaaCr
import Derived.Test.YtpcgmghacalndaaCo
import Derived.Test.YtpcgmghacalndaaLaw
set_option linter.unusedVariables false
set_option linter.unusedSimpArgs false
namespace Go.Proofs.Ytpcgmghacalndaa.cutGoes
open Go.ChangeShapes Go.WideShapes Go.ChangeAt Go.RowKit Go.Joins

theorem list_of {α : Type} {P : Nat → α → Prop} : ∀ (n : Nat), (∀ i, i < n → ∃ x, P i x) → ∃ l : List α, l.length = n ∧ ∀ i x, l[i]? = some x → P i x
  | 0, _ => ⟨[], rfl, fun i x h => by simp at h⟩
  | n + 1, h => by
    obtain ⟨l, hl, hp⟩ := list_of n (fun i hi => h i (by omega))
    obtain ⟨x, hx⟩ := h n (by omega)
    refine ⟨l ++ [x], by simp [hl], fun i y hi => ?_⟩
    by_cases e : i < n
    · rw [List.getElem?_append_left (by omega)] at hi
      exact hp i y hi
    · have : i = n := by
        have := (List.getElem?_eq_some_iff.1 hi).1
        simp [hl] at this
        omega
      subst this
      rw [List.getElem?_append_right (by omega)] at hi
      simp [hl] at hi
      subst hi
      exact hx
theorem goes_any (s : Int) (A : Option Addr) (n cap : Nat) (many : Int) (hm : n ≤ maxLen) (w : World) (h0 : A = none → n = 0)
    (hc : 0 < n → ∃ b off, A = some ⟨b, off, none⟩ ∧ b < w.heap.size ∧ ∀ i, i < n → ∃ f : Fx, ∀ j v, f.cells[j]? = some v → w.cell? ⟨b, off + i * 12 + j, none⟩ = some v) :
    Calls Try.prog 6 #[.int .i64 s, .slice A n cap, .int .i64 many] w fun e w' => e = .returned (.bool true) ∧ Bel w w' := by
  by_cases hl : 60 < n
  · exact goes_many s A n cap many hl hm w
  · obtain ⟨l, rfl, hf⟩ : ∃ l : List Fx, l.length = n ∧ FactsAt w.heap.size w A l := by
      by_cases hz : n = 0
      · exact ⟨[], by simp [hz], .inl rfl⟩
      · obtain ⟨b, off, h1, h2, h3⟩ := hc (by omega)
        obtain ⟨l, hl, hp⟩ := list_of n h3
        exact ⟨l, hl, .inr ⟨b, off, h1, h2, fun i f hi j v hv => hp i f hi j v hv⟩⟩
    by_cases hs : 0 ≤ s ∧ s ≤ 9
    · exact goes_yes s hs.1 hs.2 A l cap many (by omega) w hf
    · exact goes_no s (by omega) A l cap many (by omega) w hf

set_option maxRecDepth 100000 in
set_option maxHeartbeats 1000000 in
theorem lifted (os : Os) (started : os.Started) (H : Type) (enc : TypeId × Value → H) :
    ReturnsInHanded {} Try.checked os 6 .any (Rows.cutGoesSpec.pre6 enc Try.prog Try.f6 Rows.cutGoesRow.domain false) (Rows.cutGoesSpec.post enc Try.prog Try.f6 false true false false) := by
  refine returnsInHanded_of_change (C := Try.checked) own started (by kernel_rfl) Try.func6
    (ChangeSpec.witness6 (enc := enc) (C := Try.checked) false ⟨#[], #[.int .i64 0, .slice none 0 0, .int .i64 0], []⟩ 8 (by kernel_rfl) (by kernel_rfl) (by kernel_rfl) (by kernel_rfl)) ?_
  intro W base args ds gs before hval0 hW hcnd _
  have hval : ∀ (j : Nat) t v, Try.f6.params[j]? = some t → args[j]? = some v → Value.okWide Try.prog W .any base t v := hval0
  have hW' := hW
  obtain ⟨p, q, hA0, hV, rfl, hfz, hnd⟩ := hW
  have hA : DataW.TrodAll enc Try.prog W 0 (fun _ => true) true Try.f6.params.toList args.toList ds p := hA0
  rw [Try.params6] at hA hval
  obtain ⟨v0, vs0, d0, ds0, p0, q0, hargs, rfl, rfl, h0, r0⟩ := trodAll_cons hA
  obtain ⟨v1, vs1, d1, ds1, p1, q1, rfl, rfl, rfl, h1, r1⟩ := trodAll_cons r0
  obtain ⟨v2, vs2, d2, ds2, p2, q2, rfl, rfl, rfl, h2, r2⟩ := trodAll_cons r1
  obtain ⟨rfl, rfl, rfl⟩ := trodAll_nil r2
  obtain rfl : args = #[v0, v1, v2] := by cases args; simp_all
  obtain ⟨rfl, rfl⟩ := trodVars_none hV
  obtain ⟨s, rfl, -, -, -⟩ := open_int Try.underlying38 (hval 0 38 v0 rfl rfl) h0
  obtain ⟨A, n, cap, rfl⟩ := okWide_slice Try.underlying51 (hval 1 51 v1 rfl rfl)
  obtain ⟨many, rfl, -, -, -⟩ := open_int Try.underlying3 (hval 2 3 v2 rfl rfl) h2
  obtain ⟨fuel, hf⟩ := h1
  obtain ⟨A', n', cap', hcs, hn, hcap, hnone, hcells⟩ := slice_read (sz := 12) Try.underlying51 (by kernel_rfl) (by omega) hf
  simp [Value.cells] at hcs
  obtain ⟨rfl, rfl, rfl⟩ := hcs
  clear hA0 hval0
  refine (goes_any s A n cap many (by omega) W (fun h => (hnone h).1) (fun hlt => by
    obtain ⟨b, off, h1, h2, h3⟩ := hcells hlt
    refine ⟨b, off, h1, h2, fun i hi => ?_⟩
    obtain ⟨cs', fuel', y, -, hj, ht⟩ := h3 i hi
    obtain ⟨go, made, opn, drained, failed, settled, waits, dropped, swapped, clear, late, stop, rfl⟩ := facts_cells ht
    exact ⟨⟨go, made, opn, drained, failed, settled, waits, dropped, swapped, clear, late, stop⟩, hj⟩)).mono fun e W' ⟨he, hb⟩ => ?_
  subst he
  exact ⟨_, rfl, law_post laidOut (by kernel_rfl) (by kernel_rfl) Try.underlying4 rfl hW' rfl hb⟩

theorem proved : Rows.CutGoesSaid :=
  OpenClaim.holds_of_wide 6 Try.f6 rfl rfl rfl rfl rfl rfl rfl ⟨rfl, rfl, rfl, rfl, rfl⟩ rfl rfl rfl rfl rfl (by kernel_rfl) Try.func6 (by kernel_rfl)
    (of_decide_eq_true (by kernel_rfl)) (by unfold Func.isWrapper; first | (rw [if_pos (by decide +kernel)]; kernel_rfl) | (rw [if_neg (by decide +kernel)]; exact ⟨rfl, rfl⟩))
    (fun os started H enc _ => lifted os started H enc)
#print axioms proved
end Go.Proofs.Ytpcgmghacalndaa.cutGoes
