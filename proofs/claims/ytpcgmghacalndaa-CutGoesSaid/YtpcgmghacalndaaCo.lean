/-
  How a struct of truths reads: its cells are truths.
-/
import Derived.Test.YtpcgmghacalndaaLaw
import Derived.Deep.Fields
set_option linter.unusedVariables false
set_option linter.unusedSimpArgs false
namespace Go.Proofs.Ytpcgmghacalndaa
open Go.ChangeShapes Go.WideShapes Go.ChangeAt Go.RowKit Go.Deep
section
variable {H : Type} {enc : TypeId × Value → H} {w : World} {base : Nat} {spare : Nat → Bool} {held : Bool}
theorem facts_cells {fuel : Nat} {cs : List Value} {x : DataW H × List MemPlace} (h : DataW.trod enc Try.prog w base spare held fuel 40 cs = some x) :
    ∃ go made opn drained failed settled waits dropped swapped clear late stop : Bool, cs = [.bool go, .bool made, .bool opn, .bool drained, .bool failed, .bool settled, .bool waits, .bool dropped, .bool swapped, .bool clear, .bool late, .bool stop] := by
  obtain ⟨hl, n, hf⟩ := struct_cells Try.underlying40 (by kernel_rfl) (by kernel_rfl) h
  obtain ⟨v0, y0, c0, t0⟩ := hf 0 _ rfl
  obtain ⟨go, k0, -⟩ := DataW.trod_bool Try.underlying4 t0
  simp only [List.cons.injEq, and_true] at k0
  subst k0
  obtain ⟨v1, y1, c1, t1⟩ := hf 1 _ rfl
  obtain ⟨made, k1, -⟩ := DataW.trod_bool Try.underlying4 t1
  simp only [List.cons.injEq, and_true] at k1
  subst k1
  obtain ⟨v2, y2, c2, t2⟩ := hf 2 _ rfl
  obtain ⟨opn, k2, -⟩ := DataW.trod_bool Try.underlying4 t2
  simp only [List.cons.injEq, and_true] at k2
  subst k2
  obtain ⟨v3, y3, c3, t3⟩ := hf 3 _ rfl
  obtain ⟨drained, k3, -⟩ := DataW.trod_bool Try.underlying4 t3
  simp only [List.cons.injEq, and_true] at k3
  subst k3
  obtain ⟨v4, y4, c4, t4⟩ := hf 4 _ rfl
  obtain ⟨failed, k4, -⟩ := DataW.trod_bool Try.underlying4 t4
  simp only [List.cons.injEq, and_true] at k4
  subst k4
  obtain ⟨v5, y5, c5, t5⟩ := hf 5 _ rfl
  obtain ⟨settled, k5, -⟩ := DataW.trod_bool Try.underlying4 t5
  simp only [List.cons.injEq, and_true] at k5
  subst k5
  obtain ⟨v6, y6, c6, t6⟩ := hf 6 _ rfl
  obtain ⟨waits, k6, -⟩ := DataW.trod_bool Try.underlying4 t6
  simp only [List.cons.injEq, and_true] at k6
  subst k6
  obtain ⟨v7, y7, c7, t7⟩ := hf 7 _ rfl
  obtain ⟨dropped, k7, -⟩ := DataW.trod_bool Try.underlying4 t7
  simp only [List.cons.injEq, and_true] at k7
  subst k7
  obtain ⟨v8, y8, c8, t8⟩ := hf 8 _ rfl
  obtain ⟨swapped, k8, -⟩ := DataW.trod_bool Try.underlying4 t8
  simp only [List.cons.injEq, and_true] at k8
  subst k8
  obtain ⟨v9, y9, c9, t9⟩ := hf 9 _ rfl
  obtain ⟨clear, k9, -⟩ := DataW.trod_bool Try.underlying4 t9
  simp only [List.cons.injEq, and_true] at k9
  subst k9
  obtain ⟨v10, y10, c10, t10⟩ := hf 10 _ rfl
  obtain ⟨late, k10, -⟩ := DataW.trod_bool Try.underlying4 t10
  simp only [List.cons.injEq, and_true] at k10
  subst k10
  obtain ⟨v11, y11, c11, t11⟩ := hf 11 _ rfl
  obtain ⟨stop, k11, -⟩ := DataW.trod_bool Try.underlying4 t11
  simp only [List.cons.injEq, and_true] at k11
  subst k11
  have hl' : cs.length = 12 := hl
  refine ⟨go, made, opn, drained, failed, settled, waits, dropped, swapped, clear, late, stop, ?_⟩
  apply List.ext_getElem?
  intro j
  match j with
  | 0 => exact c0
  | 1 => exact c1
  | 2 => exact c2
  | 3 => exact c3
  | 4 => exact c4
  | 5 => exact c5
  | 6 => exact c6
  | 7 => exact c7
  | 8 => exact c8
  | 9 => exact c9
  | 10 => exact c10
  | 11 => exact c11
  | j + 12 => rw [List.getElem?_eq_none (by omega)]; rfl
end
end Go.Proofs.Ytpcgmghacalndaa
