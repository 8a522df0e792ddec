/-
  Arguments that are read: lists of values, of numbers, schemas.
-/
import Derived.Test.YtkklmflclmgjeaaGreatDoorSu
import Derived.Test.YtkklmflclmgjeaaGreatDoorSp
set_option linter.unusedVariables false
set_option linter.unusedSimpArgs false
set_option linter.unusedVariables false
set_option linter.unusedSimpArgs false
namespace Go.Proofs.YtkklmflclmgjeaaGreatDoor
open Go.ChangeShapes Go.WideShapes Go.RowKit
section
variable {H : Type} {enc : TypeId × Value → H} {w : World} {base : Nat} {spare : Nat → Bool} {held : Bool}
theorem list_of {α : Type} {n : Nat} {p : Nat → α → Prop} (h : ∀ i, i < n → ∃ x, p i x) : ∃ l : List α, l.length = n ∧ ∀ i x, l[i]? = some x → p i x := by
  induction n with
  | zero => exact ⟨[], rfl, fun i x hx => by simp at hx⟩
  | succ n ih =>
    obtain ⟨l, hl, hp⟩ := ih (fun i hi => h i (by omega))
    obtain ⟨x, hx⟩ := h n (by omega)
    refine ⟨l ++ [x], by simp [hl], fun i y hy => ?_⟩
    by_cases hi : i < n
    · rw [List.getElem?_append_left (by omega)] at hy; exact hp i y hy
    · rw [List.getElem?_append_right (by omega)] at hy
      have h0 : i - l.length = 0 := by have := (List.getElem?_eq_some_iff.1 hy).1; simp at this; omega
      rw [h0] at hy
      simp at hy
      subst hy
      obtain rfl : i = n := by omega
      exact hx
theorem vals_read {fuel : Nat} {cs : List Value} {x : DataW H × List MemPlace} (h : DataW.trod enc Tryz.prog w base spare held fuel 27 cs = some x) :
    ∃ (A : Option Addr) (l : List Val) (cap : Nat), cs = [.slice A l.length cap] ∧ ValsAt w (.slice A l.length cap) l ∧ (∀ x ∈ l, x.Wf) ∧ (∀ x ∈ l, x.b.size ≤ maxLen) := by
  obtain ⟨A, n, cap, rfl, hn, hm, h0, hi⟩ := slice_read (sz := 4) Tryz.underlying27 (by kernel_rfl) (by omega) h
  obtain ⟨l, hl, hp⟩ := list_of (n := n) (p := fun i (x : Val) => (∀ b off, A = some ⟨b, off, none⟩ → ∀ j v, (vrow x)[j]? = some v → w.cell? ⟨b, off + i * 4 + j, none⟩ = some v) ∧ x.Wf ∧ x.b.size ≤ maxLen) (fun i hin => by
    obtain ⟨b, off, rfl, hb, hc⟩ := hi (by omega)
    obtain ⟨cs', fuel', y, hl, hcell, ht⟩ := hc i hin
    obtain ⟨x, rfl, hw, hs⟩ := val_cells ht
    refine ⟨x, fun b' off' e => ?_, hw, hs⟩
    cases e
    exact hcell)
  subst hl
  refine ⟨A, l, cap, rfl, ⟨A, cap, rfl, hn, hm, fun hn0 => ?_⟩, fun x hx => ?_, fun x hx => ?_⟩
  · obtain ⟨b, off, rfl, hb, -⟩ := hi hn0
    refine ⟨b, off, rfl, fun i x hx => ?_⟩
    have := (hp i x hx).1 b off rfl
    exact ⟨this 0 _ rfl, this 1 _ rfl, this 2 _ rfl, this 3 _ rfl⟩
  · obtain ⟨i, hi⟩ := List.mem_iff_getElem?.1 hx
    exact (hp i x hi).2.1
  · obtain ⟨i, hi⟩ := List.mem_iff_getElem?.1 hx
    exact (hp i x hi).2.2
theorem ints_read {fuel : Nat} {cs : List Value} {x : DataW H × List MemPlace} (h : DataW.trod enc Tryz.prog w base spare held fuel 23 cs = some x) :
    ∃ (A : Option Addr) (l : List Int) (cap : Nat), cs = [.slice A l.length cap] ∧ IntsAt w (.slice A l.length cap) l := by
  obtain ⟨A, n, cap, rfl, hn, hm, h0, hi⟩ := slice_read (sz := 1) Tryz.underlying23 (by kernel_rfl) (by omega) h
  obtain ⟨l, hl, hp⟩ := list_of (n := n) (p := fun i (x : Int) => ∀ b off, A = some ⟨b, off, none⟩ → w.cell? ⟨b, off + i, none⟩ = some (.int .i64 x)) (fun i hin => by
    obtain ⟨b, off, rfl, hb, hc⟩ := hi (by omega)
    obtain ⟨cs', fuel', y, hl, hcell, ht⟩ := hc i hin
    obtain ⟨m, rfl, -, -⟩ := DataW.trod_int Tryz.underlying3 ht
    refine ⟨m, fun b' off' e => ?_⟩
    cases e
    have := hcell 0 _ rfl
    rwa [Nat.mul_one, Nat.add_zero] at this)
  subst hl
  refine ⟨A, l, cap, rfl, A, cap, rfl, hn, hm, fun hn0 => ?_⟩
  obtain ⟨b, off, rfl, hb, -⟩ := hi hn0
  exact ⟨b, off, rfl, fun i x hx => hp i x hx b off rfl⟩
theorem intss_read {fuel : Nat} {cs : List Value} {x : DataW H × List MemPlace} (h : DataW.trod enc Tryz.prog w base spare held fuel 24 cs = some x) :
    ∃ (A : Option Addr) (l : List (List Int)) (cap : Nat), cs = [.slice A l.length cap] ∧ ListsAt w (.slice A l.length cap) l := by
  obtain ⟨A, n, cap, rfl, hn, hm, h0, hi⟩ := slice_read (sz := 1) Tryz.underlying24 (by kernel_rfl) (by omega) h
  obtain ⟨l, hl, hp⟩ := list_of (n := n) (p := fun i (x : List Int) => ∀ b off, A = some ⟨b, off, none⟩ → ∃ u, w.cell? ⟨b, off + i, none⟩ = some u ∧ IntsAt w u x) (fun i hin => by
    obtain ⟨b, off, rfl, hb, hc⟩ := hi (by omega)
    obtain ⟨cs', fuel', y, hl, hcell, ht⟩ := hc i hin
    obtain ⟨A2, l2, c2, rfl, h2⟩ := ints_read ht
    refine ⟨l2, fun b' off' e => ?_⟩
    cases e
    have := hcell 0 _ rfl
    rw [Nat.mul_one, Nat.add_zero] at this
    exact ⟨_, this, h2⟩)
  subst hl
  refine ⟨A, l, cap, rfl, A, cap, rfl, hn, hm, fun hn0 => ?_⟩
  obtain ⟨b, off, rfl, hb, -⟩ := hi hn0
  exact ⟨b, off, rfl, fun i x hx => hp i x hx b off rfl⟩
theorem cols_read {fuel : Nat} {cs : List Value} {x : DataW H × List MemPlace} (h : DataW.trod enc Tryz.prog w base spare held fuel 22 cs = some x) :
    ∃ (A : Option Addr) (l : List Col) (cap : Nat), cs = [.slice A l.length cap] ∧ ColsAt w (.slice A l.length cap) l ∧ (∀ c ∈ l, c.name.size ≤ maxLen) := by
  obtain ⟨A, n, cap, rfl, hn, hm, h0, hi⟩ := slice_read (sz := 4) Tryz.underlying22 (by kernel_rfl) (by omega) h
  obtain ⟨l, hl, hp⟩ := list_of (n := n) (p := fun i (x : Col) => (∀ b off, A = some ⟨b, off, none⟩ → ∀ j v, ([.string x.name, .int .i64 x.t, .int .i64 x.z, .bool x.null] : List Value)[j]? = some v → w.cell? ⟨b, off + i * 4 + j, none⟩ = some v) ∧ x.name.size ≤ maxLen) (fun i hin => by
    obtain ⟨b, off, rfl, hb, hc⟩ := hi (by omega)
    obtain ⟨cs', fuel', y, hl, hcell, ht⟩ := hc i hin
    obtain ⟨x, rfl, hs⟩ := col_cells ht
    refine ⟨x, fun b' off' e => ?_, hs⟩
    cases e
    exact hcell)
  subst hl
  refine ⟨A, l, cap, rfl, ⟨A, cap, rfl, hn, hm, fun hn0 => ?_⟩, fun x hx => ?_⟩
  · obtain ⟨b, off, rfl, hb, -⟩ := hi hn0
    refine ⟨b, off, rfl, fun i x hx => ?_⟩
    have := (hp i x hx).1 b off rfl
    exact ⟨this 0 _ rfl, this 1 _ rfl, this 2 _ rfl, this 3 _ rfl⟩
  · obtain ⟨i, hi⟩ := List.mem_iff_getElem?.1 hx
    exact (hp i x hi).2
set_option maxRecDepth 100000 in
/-- A schema that came in by value. -/
theorem schema_arg {r : Reach} {b0 : Nat} {v : Value} {d : DataW H} {p : List MemPlace} (hv : Value.okWide Tryz.prog w r b0 26 v) (h : DataW.Trod enc Tryz.prog w base spare held 26 v d p) :
    ∃ (vc vk vu : Value) (cols : List Col) (key : List Int) (uq : List (List Int)), v = .agg #[vc, vk, vu] ∧ ColsAt w vc cols ∧ IntsAt w vk key ∧ ListsAt w vu uq ∧ (∀ c ∈ cols, c.name.size ≤ maxLen) := by
  obtain ⟨cs, rfl, hl, n, hg⟩ := open_cells Tryz.underlying26 (by kernel_rfl) (by kernel_rfl) hv h
  obtain ⟨u0, u1, u2, rfl⟩ := list3 hl
  obtain ⟨y0, e0⟩ := hg 0 _ _ rfl rfl
  obtain ⟨y1, e1⟩ := hg 1 _ _ rfl rfl
  obtain ⟨y2, e2⟩ := hg 2 _ _ rfl rfl
  obtain ⟨A0, l0, c0, q0, h0, hs⟩ := cols_read e0
  obtain ⟨A1, l1, c1, q1, h1⟩ := ints_read e1
  obtain ⟨A2, l2, c2, q2, h2⟩ := intss_read e2
  simp only [List.cons.injEq, and_true] at q0 q1 q2
  subst q0 q1 q2
  exact ⟨_, _, _, l0, l1, l2, rfl, h0, h1, h2, hs⟩
end
end Go.Proofs.YtkklmflclmgjeaaGreatDoor
