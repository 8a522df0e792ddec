/-
  Arguments that are read: columns, values, schemas.
-/
import Derived.Test.YtkklmflclmgjeaaGreatDoorAgg
import Derived.Test.YtkklmflclmgjeaaGreatDoorSp
set_option linter.unusedVariables false
set_option linter.unusedSimpArgs false
set_option linter.unusedVariables false
set_option linter.unusedSimpArgs false
namespace Go.Proofs.YtkklmflclmgjeaaGreatDoor
open Go.ChangeShapes Go.WideShapes Go.RowKit
section
variable {H : Type} {enc : TypeId × Value → H} {w : World} {base : Nat} {spare : Nat → Bool} {held : Bool}
theorem i64_range {n : Int} (h : (Lit.int .i64 n).wf = true) : -9223372036854775808 ≤ n ∧ n ≤ 9223372036854775807 := by
  simp [Lit.wf, IntKind.min, IntKind.max, IntKind.bits, IntKind.signed] at h
  omega
theorem u64_range {n : Int} (h : (Lit.int .u64 n).wf = true) : 0 ≤ n ∧ n ≤ 18446744073709551615 := by
  simp [Lit.wf, IntKind.min, IntKind.max, IntKind.bits, IntKind.signed] at h
  omega
theorem val_cells {cs : List Value} {fuel : Nat} {x : DataW H × List MemPlace} (h : DataW.trod enc Tryz.prog w base spare held fuel 48 cs = some x) : ∃ x : Val, cs = vrow x ∧ x.Wf ∧ x.b.size ≤ maxLen := by
  obtain ⟨hl, m, hg⟩ := struct_cells Tryz.underlying48 (by kernel_rfl) (by kernel_rfl) h
  obtain ⟨u0, u1, u2, u3, rfl⟩ := list4 hl
  obtain ⟨v0, y0, k0, e0⟩ := hg 0 _ rfl
  obtain ⟨v1, y1, k1, e1⟩ := hg 1 _ rfl
  obtain ⟨v2, y2, k2, e2⟩ := hg 2 _ rfl
  obtain ⟨v3, y3, k3, e3⟩ := hg 3 _ rfl
  cases k0
  cases k1
  cases k2
  cases k3
  obtain ⟨a, q0, -, w0⟩ := DataW.trod_int Tryz.underlying45 e0
  obtain ⟨b, q1, -, w1⟩ := DataW.trod_int Tryz.underlying2 e1
  obtain ⟨c, q2, -, w2⟩ := DataW.trod_int Tryz.underlying46 e2
  obtain ⟨d, q3, -, w3⟩ := DataW.trod_string Tryz.underlying9 e3
  simp only [List.cons.injEq, and_true] at q0 q1 q2 q3
  subst q0 q1 q2 q3
  exact ⟨⟨a, b, c, d⟩, rfl, ⟨(i64_range w1).1, (i64_range w1).2, (u64_range w2).1, (u64_range w2).2⟩, w3⟩
theorem col_cells {cs : List Value} {fuel : Nat} {x : DataW H × List MemPlace} (h : DataW.trod enc Tryz.prog w base spare held fuel 44 cs = some x) : ∃ x : Col, cs = [.string x.name, .int .i64 x.t, .int .i64 x.z, .bool x.null] ∧ x.name.size ≤ maxLen := by
  obtain ⟨hl, m, hg⟩ := struct_cells Tryz.underlying44 (by kernel_rfl) (by kernel_rfl) h
  obtain ⟨u0, u1, u2, u3, rfl⟩ := list4 hl
  obtain ⟨v0, y0, k0, e0⟩ := hg 0 _ rfl
  obtain ⟨v1, y1, k1, e1⟩ := hg 1 _ rfl
  obtain ⟨v2, y2, k2, e2⟩ := hg 2 _ rfl
  obtain ⟨v3, y3, k3, e3⟩ := hg 3 _ rfl
  cases k0
  cases k1
  cases k2
  cases k3
  obtain ⟨a, q0, -, w0⟩ := DataW.trod_string Tryz.underlying9 e0
  obtain ⟨b, q1, -, w1⟩ := DataW.trod_int Tryz.underlying42 e1
  obtain ⟨c, q2, -, w2⟩ := DataW.trod_int Tryz.underlying3 e2
  obtain ⟨d, q3, -⟩ := DataW.trod_bool Tryz.underlying4 e3
  simp only [List.cons.injEq, and_true] at q0 q1 q2 q3
  subst q0 q1 q2 q3
  exact ⟨⟨a, b, c, d⟩, rfl, w0⟩
set_option maxRecDepth 100000 in
theorem val_arg {r : Reach} {b0 : Nat} {v : Value} {d : DataW H} {p : List MemPlace} (hv : Value.okWide Tryz.prog w r b0 48 v) (h : DataW.Trod enc Tryz.prog w base spare held 48 v d p) : ∃ x : Val, v = x.v ∧ x.Wf ∧ x.b.size ≤ maxLen := by
  have hs := okWide_struct Tryz.underlying48 hv
  generalize Tryz.prog.cellsOf 48 = sz at hs
  obtain ⟨cs, rfl, -⟩ := hs
  obtain ⟨fuel, hf⟩ := h
  obtain ⟨x, he, hw, hb⟩ := val_cells hf
  refine ⟨x, ?_, hw, hb⟩
  have he' : cs.toList = vrow x := he
  rw [show cs = (vrow x).toArray by rw [← he']]
  rfl
set_option maxRecDepth 100000 in
theorem col_arg {r : Reach} {b0 : Nat} {v : Value} {d : DataW H} {p : List MemPlace} (hv : Value.okWide Tryz.prog w r b0 44 v) (h : DataW.Trod enc Tryz.prog w base spare held 44 v d p) : ∃ x : Col, v = x.v ∧ x.name.size ≤ maxLen := by
  have hs := okWide_struct Tryz.underlying44 hv
  generalize Tryz.prog.cellsOf 44 = sz at hs
  obtain ⟨cs, rfl, -⟩ := hs
  obtain ⟨fuel, hf⟩ := h
  obtain ⟨x, he, hb⟩ := col_cells hf
  refine ⟨x, ?_, hb⟩
  have he' : cs.toList = [.string x.name, .int .i64 x.t, .int .i64 x.z, .bool x.null] := he
  rw [show cs = ([.string x.name, .int .i64 x.t, .int .i64 x.z, .bool x.null] : List Value).toArray by rw [← he']]
  rfl
end
end Go.Proofs.YtkklmflclmgjeaaGreatDoor
