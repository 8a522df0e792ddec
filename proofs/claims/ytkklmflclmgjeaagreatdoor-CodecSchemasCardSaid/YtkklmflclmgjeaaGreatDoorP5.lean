/-
  The texts of the schema and of the codec, one behind the other: part 5.
-/
import Derived.Test.YtkklmflclmgjeaaGreatDoorP4
import Derived.Test.YtkklmflclmgjeaaGreatDoorRows
import Derived.ChangeSame
import Derived.ChangeVars
import Derived.JoinedOf
import Derived.RowKitTokens
import Derived.LaidLaws
import Derived.LaidHandle
import Derived.Stop.Joined
import Derived.SevenTiedAt
/-
  Arguments that are read: lists of values, of numbers, schemas.
-/
set_option linter.unusedVariables false
set_option linter.unusedSimpArgs false
set_option linter.unusedVariables false
set_option linter.unusedSimpArgs false
namespace Go.Proofs.YtkklmflclmgjeaaGreatDoor
open Go.ChangeShapes Go.WideShapes Go.RowKit
section
variable {H : Type} {enc : TypeId × Value → H} {w : World} {base : Nat} {spare : Nat → Bool} {held : Bool}
theorem list_of {α : Type} {n : Nat} {p : Nat → α → Prop} (h : ∀ i, i < n → ∃ x, p i x) : ∃ l : List α, l.length = n ∧ ∀ i x, l[i]? = some x → p i x := by
  induction n with
  | zero => exact ⟨[], rfl, fun i x hx => by simp at hx⟩
  | succ n ih =>
    obtain ⟨l, hl, hp⟩ := ih (fun i hi => h i (by omega))
    obtain ⟨x, hx⟩ := h n (by omega)
    refine ⟨l ++ [x], by simp [hl], fun i y hy => ?_⟩
    by_cases hi : i < n
    · rw [List.getElem?_append_left (by omega)] at hy; exact hp i y hy
    · rw [List.getElem?_append_right (by omega)] at hy
      have h0 : i - l.length = 0 := by have := (List.getElem?_eq_some_iff.1 hy).1; simp at this; omega
      rw [h0] at hy
      simp at hy
      subst hy
      obtain rfl : i = n := by omega
      exact hx
theorem vals_read {fuel : Nat} {cs : List Value} {x : DataW H × List MemPlace} (h : DataW.trod enc Tryz.prog w base spare held fuel 27 cs = some x) :
    ∃ (A : Option Addr) (l : List Val) (cap : Nat), cs = [.slice A l.length cap] ∧ ValsAt w (.slice A l.length cap) l ∧ (∀ x ∈ l, x.Wf) ∧ (∀ x ∈ l, x.b.size ≤ maxLen) := by
  obtain ⟨A, n, cap, rfl, hn, hm, h0, hi⟩ := slice_read (sz := 4) Tryz.underlying27 (by kernel_rfl) (by omega) h
  obtain ⟨l, hl, hp⟩ := list_of (n := n) (p := fun i (x : Val) => (∀ b off, A = some ⟨b, off, none⟩ → ∀ j v, (vrow x)[j]? = some v → w.cell? ⟨b, off + i * 4 + j, none⟩ = some v) ∧ x.Wf ∧ x.b.size ≤ maxLen) (fun i hin => by
    obtain ⟨b, off, rfl, hb, hc⟩ := hi (by omega)
    obtain ⟨cs', fuel', y, hl, hcell, ht⟩ := hc i hin
    obtain ⟨x, rfl, hw, hs⟩ := val_cells ht
    refine ⟨x, fun b' off' e => ?_, hw, hs⟩
    cases e
    exact hcell)
  subst hl
  refine ⟨A, l, cap, rfl, ⟨A, cap, rfl, hn, hm, fun hn0 => ?_⟩, fun x hx => ?_, fun x hx => ?_⟩
  · obtain ⟨b, off, rfl, hb, -⟩ := hi hn0
    refine ⟨b, off, rfl, fun i x hx => ?_⟩
    have := (hp i x hx).1 b off rfl
    exact ⟨this 0 _ rfl, this 1 _ rfl, this 2 _ rfl, this 3 _ rfl⟩
  · obtain ⟨i, hi⟩ := List.mem_iff_getElem?.1 hx
    exact (hp i x hi).2.1
  · obtain ⟨i, hi⟩ := List.mem_iff_getElem?.1 hx
    exact (hp i x hi).2.2
theorem ints_read {fuel : Nat} {cs : List Value} {x : DataW H × List MemPlace} (h : DataW.trod enc Tryz.prog w base spare held fuel 23 cs = some x) :
    ∃ (A : Option Addr) (l : List Int) (cap : Nat), cs = [.slice A l.length cap] ∧ IntsAt w (.slice A l.length cap) l := by
  obtain ⟨A, n, cap, rfl, hn, hm, h0, hi⟩ := slice_read (sz := 1) Tryz.underlying23 (by kernel_rfl) (by omega) h
  obtain ⟨l, hl, hp⟩ := list_of (n := n) (p := fun i (x : Int) => ∀ b off, A = some ⟨b, off, none⟩ → w.cell? ⟨b, off + i, none⟩ = some (.int .i64 x)) (fun i hin => by
    obtain ⟨b, off, rfl, hb, hc⟩ := hi (by omega)
    obtain ⟨cs', fuel', y, hl, hcell, ht⟩ := hc i hin
    obtain ⟨m, rfl, -, -⟩ := DataW.trod_int Tryz.underlying3 ht
    refine ⟨m, fun b' off' e => ?_⟩
    cases e
    have := hcell 0 _ rfl
    rwa [Nat.mul_one, Nat.add_zero] at this)
  subst hl
  refine ⟨A, l, cap, rfl, A, cap, rfl, hn, hm, fun hn0 => ?_⟩
  obtain ⟨b, off, rfl, hb, -⟩ := hi hn0
  exact ⟨b, off, rfl, fun i x hx => hp i x hx b off rfl⟩
theorem intss_read {fuel : Nat} {cs : List Value} {x : DataW H × List MemPlace} (h : DataW.trod enc Tryz.prog w base spare held fuel 24 cs = some x) :
    ∃ (A : Option Addr) (l : List (List Int)) (cap : Nat), cs = [.slice A l.length cap] ∧ ListsAt w (.slice A l.length cap) l := by
  obtain ⟨A, n, cap, rfl, hn, hm, h0, hi⟩ := slice_read (sz := 1) Tryz.underlying24 (by kernel_rfl) (by omega) h
  obtain ⟨l, hl, hp⟩ := list_of (n := n) (p := fun i (x : List Int) => ∀ b off, A = some ⟨b, off, none⟩ → ∃ u, w.cell? ⟨b, off + i, none⟩ = some u ∧ IntsAt w u x) (fun i hin => by
    obtain ⟨b, off, rfl, hb, hc⟩ := hi (by omega)
    obtain ⟨cs', fuel', y, hl, hcell, ht⟩ := hc i hin
    obtain ⟨A2, l2, c2, rfl, h2⟩ := ints_read ht
    refine ⟨l2, fun b' off' e => ?_⟩
    cases e
    have := hcell 0 _ rfl
    rw [Nat.mul_one, Nat.add_zero] at this
    exact ⟨_, this, h2⟩)
  subst hl
  refine ⟨A, l, cap, rfl, A, cap, rfl, hn, hm, fun hn0 => ?_⟩
  obtain ⟨b, off, rfl, hb, -⟩ := hi hn0
  exact ⟨b, off, rfl, fun i x hx => hp i x hx b off rfl⟩
theorem cols_read {fuel : Nat} {cs : List Value} {x : DataW H × List MemPlace} (h : DataW.trod enc Tryz.prog w base spare held fuel 22 cs = some x) :
    ∃ (A : Option Addr) (l : List Col) (cap : Nat), cs = [.slice A l.length cap] ∧ ColsAt w (.slice A l.length cap) l ∧ (∀ c ∈ l, c.name.size ≤ maxLen) := by
  obtain ⟨A, n, cap, rfl, hn, hm, h0, hi⟩ := slice_read (sz := 4) Tryz.underlying22 (by kernel_rfl) (by omega) h
  obtain ⟨l, hl, hp⟩ := list_of (n := n) (p := fun i (x : Col) => (∀ b off, A = some ⟨b, off, none⟩ → ∀ j v, ([.string x.name, .int .i64 x.t, .int .i64 x.z, .bool x.null] : List Value)[j]? = some v → w.cell? ⟨b, off + i * 4 + j, none⟩ = some v) ∧ x.name.size ≤ maxLen) (fun i hin => by
    obtain ⟨b, off, rfl, hb, hc⟩ := hi (by omega)
    obtain ⟨cs', fuel', y, hl, hcell, ht⟩ := hc i hin
    obtain ⟨x, rfl, hs⟩ := col_cells ht
    refine ⟨x, fun b' off' e => ?_, hs⟩
    cases e
    exact hcell)
  subst hl
  refine ⟨A, l, cap, rfl, ⟨A, cap, rfl, hn, hm, fun hn0 => ?_⟩, fun x hx => ?_⟩
  · obtain ⟨b, off, rfl, hb, -⟩ := hi hn0
    refine ⟨b, off, rfl, fun i x hx => ?_⟩
    have := (hp i x hx).1 b off rfl
    exact ⟨this 0 _ rfl, this 1 _ rfl, this 2 _ rfl, this 3 _ rfl⟩
  · obtain ⟨i, hi⟩ := List.mem_iff_getElem?.1 hx
    exact (hp i x hi).2
set_option maxRecDepth 100000 in
/-- A schema that came in by value. -/
theorem schema_arg {r : Reach} {b0 : Nat} {v : Value} {d : DataW H} {p : List MemPlace} (hv : Value.okWide Tryz.prog w r b0 26 v) (h : DataW.Trod enc Tryz.prog w base spare held 26 v d p) :
    ∃ (vc vk vu : Value) (cols : List Col) (key : List Int) (uq : List (List Int)), v = .agg #[vc, vk, vu] ∧ ColsAt w vc cols ∧ IntsAt w vk key ∧ ListsAt w vu uq ∧ (∀ c ∈ cols, c.name.size ≤ maxLen) := by
  obtain ⟨cs, rfl, hl, n, hg⟩ := open_cells Tryz.underlying26 (by kernel_rfl) (by kernel_rfl) hv h
  obtain ⟨u0, u1, u2, rfl⟩ := list3 hl
  obtain ⟨y0, e0⟩ := hg 0 _ _ rfl rfl
  obtain ⟨y1, e1⟩ := hg 1 _ _ rfl rfl
  obtain ⟨y2, e2⟩ := hg 2 _ _ rfl rfl
  obtain ⟨A0, l0, c0, q0, h0, hs⟩ := cols_read e0
  obtain ⟨A1, l1, c1, q1, h1⟩ := ints_read e1
  obtain ⟨A2, l2, c2, q2, h2⟩ := intss_read e2
  simp only [List.cons.injEq, and_true] at q0 q1 q2
  subst q0 q1 q2
  exact ⟨_, _, _, l0, l1, l2, rfl, h0, h1, h2, hs⟩
end
end Go.Proofs.YtkklmflclmgjeaaGreatDoor

/-
  Arguments that are read: bytes.
-/
set_option linter.unusedVariables false
set_option linter.unusedSimpArgs false
set_option linter.unusedVariables false
set_option linter.unusedSimpArgs false
namespace Go.Proofs.YtkklmflclmgjeaaGreatDoor
open Go.ChangeShapes Go.WideShapes Go.RowKit
section
variable {H : Type} {enc : TypeId × Value → H} {w : World} {base : Nat} {spare : Nat → Bool} {held : Bool}
theorem bytes_read {fuel : Nat} {cs : List Value} {x : DataW H × List MemPlace} (h : DataW.trod enc Tryz.prog w base spare held fuel 63 cs = some x) :
    ∃ (A : Option Addr) (s : List UInt8) (cap : Nat), cs = [.slice A s.length cap] ∧ BsAt w (.slice A s.length cap) s := by
  obtain ⟨A, n, cap, rfl, hn, hm, h0, hi⟩ := slice_read (sz := 1) Tryz.underlying63 (by kernel_rfl) (by omega) h
  obtain ⟨s, hs, hp⟩ := list_of (n := n) (p := fun i c => ∀ b off, A = some ⟨b, off, none⟩ → w.cell? ⟨b, off + i, none⟩ = some (bv c)) (fun i hin => by
    obtain ⟨b, off, rfl, hb, hc⟩ := hi (by omega)
    obtain ⟨cs', fuel', y, hl, hcell, ht⟩ := hc i hin
    obtain ⟨m, rfl, -, hwf⟩ := DataW.trod_int Tryz.underlying5 ht
    refine ⟨UInt8.ofNat m.toNat, fun b' off' e => ?_⟩
    cases e
    have := hcell 0 _ rfl
    rw [Nat.mul_one, Nat.add_zero] at this
    rw [this]
    have hr : 0 ≤ m ∧ m < 256 := by
      have := hwf
      simp [Lit.wf, IntKind.min, IntKind.max, IntKind.bits, IntKind.signed] at this
      omega
    unfold bv
    congr 2
    rw [UInt8.toNat_ofNat', Nat.mod_eq_of_lt (by omega)]
    omega)
  subst hs
  refine ⟨A, s, cap, rfl, A, cap, rfl, hn, hm, by simp, fun hn => ?_⟩
  obtain ⟨b, off, rfl, hb, -⟩ := hi hn
  refine ⟨_, rfl, hb, fun j u hu => ?_⟩
  rw [List.getElem?_map] at hu
  obtain ⟨c, hc, rfl⟩ := Option.map_eq_some_iff.1 hu
  rw [add_free]
  exact hp j c hc b off rfl
end
end Go.Proofs.YtkklmflclmgjeaaGreatDoor

/-
  What the row's condition gives: the cell that errors.As reads (package errors' own handle of the type error).
-/
set_option linter.unusedVariables false
set_option linter.unusedSimpArgs false
set_option linter.unusedVariables false
set_option linter.unusedSimpArgs false
namespace Go.Proofs.YtkklmflclmgjeaaGreatDoor
open Go.ChangeShapes Go.WideShapes Go.RowKit
set_option maxRecDepth 100000
theorem tiedEt : Tryz.prog.globalNamed "errors.errorType" = some 0 := by kernel_rfl
theorem tiedRt : (Tryz.prog.cutTypes.find? (·.1 == "internal/reflectlite.rtype")).map (·.2) = some 218 := by kernel_rfl
theorem tiedRow : ((List.range 290).filter fun t => Tryz.prog.rowNamed t [101, 114, 114, 111, 114]) = [91] := by kernel_rfl
theorem tiedSize : Tryz.prog.types.size = 290 := by kernel_rfl
abbrev laidList : List (String × DataW Unit) := [("math/bits.deBruijn32tab", Rows.laid_math_bits_deBruijn32tab), ("math/bits.deBruijn64tab", Rows.laid_math_bits_deBruijn64tab), ("internal/strconv.uint64pow10", Rows.laid_internal_strconv_uint64pow10), ("errors.errorType", Rows.laid_errors_errorType)]
abbrev laidData : List (String × DataW Unit) := [("math/bits.deBruijn32tab", Rows.laid_math_bits_deBruijn32tab), ("math/bits.deBruijn64tab", Rows.laid_math_bits_deBruijn64tab), ("internal/strconv.uint64pow10", Rows.laid_internal_strconv_uint64pow10)]
theorem handle_of_laid {W : World} (h : laidMetH Tryz.prog laidList W) : W.cell? ⟨0, 0, none⟩ = some (.iface 218 (.agg #[.pointer (some ⟨4, 91, none⟩)])) := by
  have h' : laidMet Tryz.prog laidData W ∧ handlesMet Tryz.prog [("errors.errorType", Rows.laid_errors_errorType)] W := h
  obtain ⟨name, u, ty, e1, e2, e3, e4, e5⟩ := h'.2 _ (List.mem_singleton.2 rfl)
  have en : name = [101, 114, 114, 111, 114] := (Option.some.inj e1).symm
  subst en
  obtain rfl := Option.some.inj (tiedRt.symm.trans e2)
  have hm : ty ∈ (List.range 290).filter fun t => Tryz.prog.rowNamed t [101, 114, 114, 111, 114] := List.mem_filter.2 ⟨List.mem_range.2 (by rw [← tiedSize]; exact e3), e4⟩
  rw [tiedRow] at hm
  obtain rfl := List.mem_singleton.1 hm
  have hh : typeHandle Tryz.prog 91 = .pointer (some ⟨4, 91, none⟩) := by kernel_rfl
  rw [hh] at e5
  simpa using World.var?_cell tiedEt e5 0
/-- A world that meets the condition: the settled one, the variable's cell laid. -/
def cells32 : Array Value := #[.int .u8 0, .int .u8 1, .int .u8 28, .int .u8 2, .int .u8 29, .int .u8 14, .int .u8 24, .int .u8 3, .int .u8 30, .int .u8 22, .int .u8 20, .int .u8 15, .int .u8 25, .int .u8 17, .int .u8 4, .int .u8 8, .int .u8 31, .int .u8 27, .int .u8 13, .int .u8 23, .int .u8 21, .int .u8 19, .int .u8 16, .int .u8 7, .int .u8 26, .int .u8 12, .int .u8 18, .int .u8 6, .int .u8 11, .int .u8 5, .int .u8 10, .int .u8 9]
def cells64 : Array Value := #[.int .u8 0, .int .u8 1, .int .u8 56, .int .u8 2, .int .u8 57, .int .u8 49, .int .u8 28, .int .u8 3, .int .u8 61, .int .u8 58, .int .u8 42, .int .u8 50, .int .u8 38, .int .u8 29, .int .u8 17, .int .u8 4, .int .u8 62, .int .u8 47, .int .u8 59, .int .u8 36, .int .u8 45, .int .u8 43, .int .u8 51, .int .u8 22, .int .u8 53, .int .u8 39, .int .u8 33, .int .u8 30, .int .u8 24, .int .u8 18, .int .u8 12, .int .u8 5, .int .u8 63, .int .u8 55, .int .u8 48, .int .u8 27, .int .u8 60, .int .u8 41, .int .u8 37, .int .u8 16, .int .u8 46, .int .u8 35, .int .u8 44, .int .u8 21, .int .u8 52, .int .u8 32, .int .u8 23, .int .u8 11, .int .u8 54, .int .u8 26, .int .u8 40, .int .u8 15, .int .u8 34, .int .u8 20, .int .u8 31, .int .u8 10, .int .u8 25, .int .u8 14, .int .u8 19, .int .u8 9, .int .u8 13, .int .u8 8, .int .u8 7, .int .u8 6]
def cells10 : Array Value := #[.int .u64 1, .int .u64 10, .int .u64 100, .int .u64 1000, .int .u64 10000, .int .u64 100000, .int .u64 1000000, .int .u64 10000000, .int .u64 100000000, .int .u64 1000000000, .int .u64 10000000000, .int .u64 100000000000, .int .u64 1000000000000, .int .u64 10000000000000, .int .u64 100000000000000, .int .u64 1000000000000000, .int .u64 10000000000000000, .int .u64 100000000000000000, .int .u64 1000000000000000000, .int .u64 10000000000000000000]
noncomputable def laidWorld (os : Os) : World :=
  let w0 := World.holding Tryz.prog os ⟨#[], #[], []⟩
  { w0 with heap := (((w0.heap.modify 0 fun
      | .cells _ t frozen => .cells #[.iface 218 (.agg #[.pointer (some ⟨4, 91, none⟩)])] t frozen
      | o => o).modify 1 fun
      | .cells _ t frozen => .cells cells10 t frozen
      | o => o).modify 2 fun
      | .cells _ t frozen => .cells cells32 t frozen
      | o => o).modify 3 fun
      | .cells _ t frozen => .cells cells64 t frozen
      | o => o }
theorem laidWorld_met (os : Os) (args : Array Value) : laidMetH Tryz.prog laidList ((laidWorld os).forCall (fun _ _ => 0) ⟨#[], args, []⟩).memory :=
  laidMetH_of_parts (laidMet_of_run' 100 (by kernel_rfl) (by kernel_rfl)) (by kernel_rfl)
theorem param_in {P : Program} {ps : Array TypeId} (h : (ps.all fun t => !P.wantsStandIn t) = true) {j : Nat} {t : TypeId} (ht : ps[j]? = some t) : P.wantsStandIn t = false := by
  obtain ⟨hj, e⟩ := Array.getElem?_eq_some_iff.1 ht
  have := (Array.all_eq_true.1 h) j hj
  rw [e] at this
  simpa using this
end Go.Proofs.YtkklmflclmgjeaaGreatDoor
