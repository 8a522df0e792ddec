/-
  The law's told: how many records a log has, which are the first ones of a list.
-/
import Derived.Test.YtiajggmnfaidjaaGreatDoorLv
import Derived.Test.YtiajggmnfaidjaaGreatDoorQr
set_option linter.unusedVariables false
set_option linter.unusedSimpArgs false
set_option linter.unusedVariables false
set_option linter.unusedSimpArgs false
namespace Go.Proofs.YtiajggmnfaidjaaGreatDoor
open Go.RowKit Go.Shelf
attribute [local go_sem] Oper.semAt_some

/-- A list of byte lists, as a slice of slices reads. -/
def ListAt (w : World) (A : Option Addr) (L : List (List UInt8)) : Prop :=
  ∃ vs : List Value, vs.length = L.length ∧ (0 < L.length → ∃ g off, A = some ⟨g, off, none⟩ ∧ g < w.heap.size ∧ ∀ j u, vs[j]? = some u → w.cell? ⟨g, off + j, none⟩ = some u) ∧
    ∀ (i : Nat) (s : List UInt8), L[i]? = some s → ∃ (Ai : Option Addr) (ci : Nat), vs[i]? = some (.slice Ai s.length ci) ∧ Reads w w.heap.size 1 Ai s.length (s.map bv)
theorem ListAt.bel {w w' : World} {A : Option Addr} {L : List (List UInt8)} (h : ListAt w A L) (hb : Bel w w') : ListAt w' A L := by
  obtain ⟨vs, h1, h2, h3⟩ := h
  refine ⟨vs, h1, fun hn => ?_, fun i s hi => ?_⟩
  · obtain ⟨g, off, e, hg, hc⟩ := h2 hn
    exact ⟨g, off, e, Nat.lt_of_lt_of_le hg hb.size, fun j u hu => hb.c (hc j u hu)⟩
  · obtain ⟨Ai, ci, e, r⟩ := h3 i s hi
    exact ⟨Ai, ci, e, r.belHeap hb⟩
/-- The law's own cells: the list, the two results, the count. -/
def ToldC (B : Nat) (l : Value) (n : Int) (V : World) : Prop := V.cell? ⟨B, 0, none⟩ = some l ∧ V.cell? ⟨B + 1, 0, none⟩ = some (.int .i64 0) ∧ V.cell? ⟨B + 1 + 1, 0, none⟩ = some (.bool false) ∧ V.cell? ⟨B + 1 + 1 + 1 + 1 + 1, 0, none⟩ = some (.int .i64 n) ∧
  V.frozen? ⟨B + 1, 0, none⟩ = false ∧ V.frozen? ⟨B + 1 + 1, 0, none⟩ = false ∧ V.frozen? ⟨B + 1 + 1 + 1 + 1 + 1, 0, none⟩ = false
theorem ToldC.kept {B : Nat} {l : Value} {n : Int} {V V' : World} {row : Option Nat} (h : ToldC B l n V) (hg : V.grownBy V' row) (hr : ∀ r, row = some r → ∃ o : Obj, V.heap[r]? = some o ∧ o.isCells = false) : ToldC B l n V' :=
  ⟨cell_kept h.1 hg hr, cell_kept h.2.1 hg hr, cell_kept h.2.2.1 hg hr, cell_kept h.2.2.2.1 hg hr, (frozen_kept h.2.1 hg hr).trans h.2.2.2.2.1, (frozen_kept h.2.2.1 hg hr).trans h.2.2.2.2.2.1, (frozen_kept h.2.2.2.1 hg hr).trans h.2.2.2.2.2.2⟩
theorem rowsFrom_snd : ∀ (xs : List (List UInt8)) (a : Nat), (rowsFrom a xs).map (·.2) = xs
  | [], _ => rfl
  | x :: xs, a => by rw [rowsFrom, List.map_cons, rowsFrom_snd xs]
theorem ToldC.set {B : Nat} {l : Value} {n : Int} {V : World} (h : ToldC B l n V) (n' : Int) : ToldC B l n' (V.setCell ⟨B + 1 + 1 + 1 + 1 + 1, 0, none⟩ (.int .i64 n')) := by
  obtain ⟨r0, r1, r2, r3, f1, f2, f3⟩ := h
  exact ⟨by go_simp, by go_simp, by go_simp, by go_simp, by go_simp, by go_simp, by go_simp⟩
end Go.Proofs.YtiajggmnfaidjaaGreatDoor
