/-
  DiskHolds: the calls, read.
-/
import Derived.Test.YthmigmiojifnkaaDoorDj
set_option linter.unusedVariables false
set_option linter.unusedSimpArgs false
set_option linter.unusedVariables false
set_option linter.unusedSimpArgs false
namespace Go.Proofs.YthmigmiojifnkaaDoor
open Go.ChangeShapes Go.WideShapes Go.RowKit
section
variable {H : Type} {enc : TypeId × Value → H} {w : World} {base : Nat} {spare : Nat → Bool} {held : Bool}
theorem call_read {fuel : Nat} {cs : List Value} {x : DataW H × List MemPlace} (h : DataW.trod enc Tryd.prog w base spare held fuel 33 cs = some x) :
    ∃ (a b c d : Int) (Ab : Option Addr) (s : List UInt8) (cb : Nat), cs = [.int .i64 a, .int .i64 b, .int .i64 c, .int .i64 d, .slice Ab s.length cb] ∧ s.length ≤ maxLen ∧ (Ab = none → cb = 0) ∧ Reads w w.heap.size 1 Ab s.length (s.map bv) := by
  obtain ⟨hl, m, hg⟩ := struct_cells Tryd.underlying33 (by kernel_rfl) (by kernel_rfl) h
  obtain ⟨u0, u1, u2, u3, u4, rfl⟩ := list5 hl
  obtain ⟨v0, y0, k0, e0⟩ := hg 0 _ rfl
  obtain ⟨v1, y1, k1, e1⟩ := hg 1 _ rfl
  obtain ⟨v2, y2, k2, e2⟩ := hg 2 _ rfl
  obtain ⟨v3, y3, k3, e3⟩ := hg 3 _ rfl
  obtain ⟨v4, y4, k4, e4⟩ := hg 4 _ rfl
  cases k0
  cases k1
  cases k2
  cases k3
  cases k4
  obtain ⟨a, q0, -, -⟩ := DataW.trod_int Tryd.underlying3 e0
  obtain ⟨b, q1, -, -⟩ := DataW.trod_int Tryd.underlying3 e1
  obtain ⟨c, q2, -, -⟩ := DataW.trod_int Tryd.underlying3 e2
  obtain ⟨d, q3, -, -⟩ := DataW.trod_int Tryd.underlying3 e3
  obtain ⟨Ab, s, cb, q4, hm, hr⟩ := bytes_read e4
  obtain ⟨A', n', cap', q4', -, -, hnone, -⟩ := slice_read (sz := 1) Tryd.underlying31 (by kernel_rfl) (by omega) e4
  simp only [List.cons.injEq, and_true] at q0 q1 q2 q3 q4 q4'
  subst q0 q1 q2 q3
  rw [q4] at q4'
  cases q4'
  exact ⟨a, b, c, d, Ab, s, cb, by rw [q4], hm, fun h => (hnone h).2, hr⟩
theorem calls_read {fuel : Nat} {cs : List Value} {x : DataW H × List MemPlace} (h : DataW.trod enc Tryd.prog w base spare held fuel 22 cs = some x) :
    ∃ (A : Option Addr) (L : List C9) (cap : Nat), cs = [.slice A L.length cap] ∧ L.length ≤ maxLen ∧ (∀ x ∈ L, x.s.length ≤ maxLen) ∧ CallsAt w A L := by
  obtain ⟨A, n, cap, rfl, hn, hm, h0, hi⟩ := slice_read (sz := 5) Tryd.underlying22 (by kernel_rfl) (by omega) h
  obtain ⟨L, hL, hp⟩ := list_of (n := n) (p := fun i (c : C9) => (∀ b off, A = some ⟨b, off, none⟩ → C9At w b (off + i * 5) c) ∧ c.s.length ≤ maxLen) (fun i hin => by
    obtain ⟨b, off, rfl, hb, hc⟩ := hi (by omega)
    obtain ⟨cs', fuel', y, hl, hcell, ht⟩ := hc i hin
    obtain ⟨p, q, r, t, Ab, s, cb, rfl, hs, hnone, hr⟩ := call_read ht
    refine ⟨⟨p, q, r, t, s⟩, fun b' off' e => ?_, hs⟩
    cases e
    exact ⟨Ab, cb, hcell 0 _ rfl, hcell 1 _ rfl, hcell 2 _ rfl, hcell 3 _ rfl, hcell 4 _ rfl, hnone, hr⟩)
  subst hL
  refine ⟨A, L, cap, rfl, by omega, fun x hx => ?_, fun hn => ?_⟩
  · obtain ⟨i, hi⟩ := List.mem_iff_getElem?.1 hx
    exact (hp i x hi).2
  · obtain ⟨b, off, rfl, hb, -⟩ := hi hn
    exact ⟨b, off, rfl, fun k x hx => (hp k x hx).1 b off rfl⟩
end
end Go.Proofs.YthmigmiojifnkaaDoor
