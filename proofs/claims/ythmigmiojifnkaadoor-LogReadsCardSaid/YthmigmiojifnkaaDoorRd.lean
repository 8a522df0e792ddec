/-
  Arguments that are read: bytes, lists of bytes, two numbers.
-/
import Derived.Test.YthmigmiojifnkaaDoorAgg
import Derived.Test.YthmigmiojifnkaaDoorLt
set_option linter.unusedVariables false
set_option linter.unusedSimpArgs false
set_option linter.unusedVariables false
set_option linter.unusedSimpArgs false
namespace Go.Proofs.YthmigmiojifnkaaDoor
open Go.ChangeShapes Go.WideShapes Go.RowKit
section
variable {H : Type} {enc : TypeId × Value → H} {w : World} {base : Nat} {spare : Nat → Bool} {held : Bool}
theorem list_of {α : Type} {n : Nat} {p : Nat → α → Prop} (h : ∀ i, i < n → ∃ x, p i x) : ∃ l : List α, l.length = n ∧ ∀ i x, l[i]? = some x → p i x := by
  induction n with
  | zero => exact ⟨[], rfl, fun i x hx => by simp at hx⟩
  | succ n ih =>
    obtain ⟨l, hl, hp⟩ := ih (fun i hi => h i (by omega))
    obtain ⟨x, hx⟩ := h n (by omega)
    refine ⟨l ++ [x], by simp [hl], fun i y hy => ?_⟩
    by_cases hi : i < n
    · rw [List.getElem?_append_left (by omega)] at hy; exact hp i y hy
    · rw [List.getElem?_append_right (by omega)] at hy
      have h0 : i - l.length = 0 := by have := (List.getElem?_eq_some_iff.1 hy).1; simp at this; omega
      rw [h0] at hy
      simp at hy
      subst hy
      obtain rfl : i = n := by omega
      exact hx
theorem bytes_read {fuel : Nat} {cs : List Value} {x : DataW H × List MemPlace} (h : DataW.trod enc Tryd.prog w base spare held fuel 31 cs = some x) :
    ∃ (A : Option Addr) (s : List UInt8) (cap : Nat), cs = [.slice A s.length cap] ∧ s.length ≤ maxLen ∧ Reads w w.heap.size 1 A s.length (s.map bv) := by
  obtain ⟨A, n, cap, rfl, hn, hm, h0, hi⟩ := slice_read (sz := 1) Tryd.underlying31 (by kernel_rfl) (by omega) h
  obtain ⟨s, hs, hp⟩ := list_of (n := n) (p := fun i c => ∀ b off, A = some ⟨b, off, none⟩ → w.cell? ⟨b, off + i, none⟩ = some (bv c)) (fun i hin => by
    obtain ⟨b, off, rfl, hb, hc⟩ := hi (by omega)
    obtain ⟨cs', fuel', y, hl, hcell, ht⟩ := hc i hin
    obtain ⟨m, rfl, -, hwf⟩ := DataW.trod_int Tryd.underlying5 ht
    refine ⟨UInt8.ofNat m.toNat, fun b' off' e => ?_⟩
    cases e
    have := hcell 0 _ rfl
    rw [Nat.mul_one, Nat.add_zero] at this
    rw [this]
    have hr : 0 ≤ m ∧ m < 256 := by
      have := hwf
      simp [Lit.wf, IntKind.min, IntKind.max, IntKind.bits, IntKind.signed] at this
      omega
    unfold bv
    congr 2
    rw [UInt8.toNat_ofNat', Nat.mod_eq_of_lt (by omega)]
    omega)
  subst hs
  refine ⟨A, s, cap, rfl, by omega, by simp, fun hn => ?_⟩
  obtain ⟨b, off, rfl, hb, -⟩ := hi hn
  refine ⟨_, rfl, hb, fun j u hu => ?_⟩
  rw [List.getElem?_map] at hu
  obtain ⟨c, hc, rfl⟩ := Option.map_eq_some_iff.1 hu
  rw [add_free]
  exact hp j c hc b off rfl
theorem bytess_read {fuel : Nat} {cs : List Value} {x : DataW H × List MemPlace} (h : DataW.trod enc Tryd.prog w base spare held fuel 55 cs = some x) :
    ∃ (A : Option Addr) (L : List (List UInt8)) (cap : Nat), cs = [.slice A L.length cap] ∧ L.length ≤ maxLen ∧ L.length ≤ cap ∧ (∀ s ∈ L, s.length ≤ maxLen) ∧ ListAt w A L := by
  obtain ⟨A, n, cap, rfl, hn, hm, h0, hi⟩ := slice_read (sz := 1) Tryd.underlying55 (by kernel_rfl) (by omega) h
  obtain ⟨V, hV, hp⟩ := list_of (n := n) (p := fun i (c : Value × List UInt8) => (∀ b off, A = some ⟨b, off, none⟩ → w.cell? ⟨b, off + i, none⟩ = some c.1) ∧ c.2.length ≤ maxLen ∧ ∃ Ai ci, c.1 = .slice Ai c.2.length ci ∧ Reads w w.heap.size 1 Ai c.2.length (c.2.map bv)) (fun i hin => by
    obtain ⟨b, off, rfl, hb, hc⟩ := hi (by omega)
    obtain ⟨cs', fuel', y, hl, hcell, ht⟩ := hc i hin
    obtain ⟨Ai, s, ci, rfl, hs, hr⟩ := bytes_read ht
    refine ⟨(.slice Ai s.length ci, s), fun b' off' e => ?_, hs, Ai, ci, rfl, hr⟩
    cases e
    have := hcell 0 _ rfl
    rwa [Nat.mul_one, Nat.add_zero] at this)
  subst hV
  refine ⟨A, V.map (·.2), cap, by rw [List.length_map], by rw [List.length_map]; omega, by rw [List.length_map]; exact hn, fun s hs => ?_, V.map (·.1), by simp, fun hn => ?_, fun i s hi' => ?_⟩
  · obtain ⟨c, hc, rfl⟩ := List.mem_map.1 hs
    obtain ⟨i, hi⟩ := List.mem_iff_getElem?.1 hc
    exact (hp i c hi).2.1
  · rw [List.length_map] at hn
    obtain ⟨b, off, rfl, hb, -⟩ := hi hn
    refine ⟨b, off, rfl, hb, fun j u hu => ?_⟩
    rw [List.getElem?_map] at hu
    obtain ⟨c, hc, rfl⟩ := Option.map_eq_some_iff.1 hu
    exact (hp j c hc).1 b off rfl
  · rw [List.getElem?_map] at hi'
    obtain ⟨c, hc, rfl⟩ := Option.map_eq_some_iff.1 hi'
    obtain ⟨-, -, Ai, ci, e, r⟩ := hp i c hc
    exact ⟨Ai, ci, by rw [List.getElem?_map, hc]; simp [e], r⟩
set_option maxRecDepth 100000 in
theorem int2_read {r : Reach} {b0 : Nat} {v : Value} {d : DataW H} {p : List MemPlace} (hv : Value.okWide Tryd.prog w r b0 56 v) (h : DataW.Trod enc Tryd.prog w base spare held 56 v d p) : ∃ a b : Int, v = .agg #[.int .i64 a, .int .i64 b] := by
  simp only [Value.okWide, Tryd.underlying56] at hv
  obtain ⟨cs, rfl, hsz, -⟩ := hv
  obtain ⟨fuel, hf⟩ := h
  obtain ⟨xs, m, rfl, -, hl, hxl, hg⟩ := DataW.trod_array Tryd.underlying56 hf
  have hc2 : Tryd.prog.cellsOf 56 = 2 := by kernel_rfl
  have hc1 : Tryd.prog.cellsOf 3 = 1 := by kernel_rfl
  have he : (Value.agg cs).cells.toList = cs.toList := rfl
  rw [he, hc2] at hl
  obtain ⟨u0, u1, hcs⟩ : ∃ u0 u1, cs.toList = [u0, u1] := by
    match cs.toList, hl with
    | [a, b], _ => exact ⟨a, b, rfl⟩
  obtain ⟨y0, hy0⟩ : ∃ y, xs[0]? = some y := ⟨_, List.getElem?_eq_getElem (by omega)⟩
  obtain ⟨y1, hy1⟩ : ∃ y, xs[1]? = some y := ⟨_, List.getElem?_eq_getElem (by omega)⟩
  have h0 := (hg 0 (by omega)).trans hy0
  have h1 := (hg 1 (by omega)).trans hy1
  rw [hc1, he, hcs] at h0 h1
  simp only [Nat.zero_mul, Nat.one_mul, List.drop_zero, List.drop_succ_cons, List.take_succ_cons, List.take_zero] at h0 h1
  obtain ⟨a, k0, -, -⟩ := DataW.trod_int Tryd.underlying3 h0
  obtain ⟨b, k1, -, -⟩ := DataW.trod_int Tryd.underlying3 h1
  simp at k0 k1
  subst k0 k1
  refine ⟨a, b, ?_⟩
  have : cs = #[.int .i64 a, .int .i64 b] := by
    apply Array.ext'
    rw [hcs]
  rw [this]
end
end Go.Proofs.YthmigmiojifnkaaDoor
