/-
  Arguments that are read: acts of a pace; progress.
-/
import Derived.Test.YtnajjhgbombboaaAgg
import Derived.Test.YtnajjhgbombboaaCti
set_option linter.unusedVariables false
set_option linter.unusedSimpArgs false
set_option linter.unusedVariables false
set_option linter.unusedSimpArgs false
namespace Go.Proofs.Ytnajjhgbombboaa
open Go.ChangeShapes Go.WideShapes Go.RowKit
section
variable {H : Type} {enc : TypeId × Value → H} {w : World} {base : Nat} {spare : Nat → Bool} {held : Bool}
theorem list_of {α : Type} {n : Nat} {p : Nat → α → Prop} (h : ∀ i, i < n → ∃ x, p i x) : ∃ l : List α, l.length = n ∧ ∀ i x, l[i]? = some x → p i x := by
  induction n with
  | zero => exact ⟨[], rfl, fun i x hx => by simp at hx⟩
  | succ n ih =>
    obtain ⟨l, hl, hp⟩ := ih (fun i hi => h i (by omega))
    obtain ⟨x, hx⟩ := h n (by omega)
    refine ⟨l ++ [x], by simp [hl], fun i y hy => ?_⟩
    by_cases hi : i < n
    · rw [List.getElem?_append_left (by omega)] at hy; exact hp i y hy
    · rw [List.getElem?_append_right (by omega)] at hy
      have h0 : i - l.length = 0 := by have := (List.getElem?_eq_some_iff.1 hy).1; simp at this; omega
      rw [h0] at hy
      simp at hy
      subst hy
      obtain rfl : i = n := by omega
      exact hx
theorem list2_ {α : Type} {l : List α} (h : l.length = 2) : ∃ a b, l = [a, b] := by
  match l, h with
  | [a, b], _ => exact ⟨a, b, rfl⟩
theorem list7_ {α : Type} {l : List α} (h : l.length = 7) : ∃ a b c d e f g, l = [a, b, c, d, e, f, g] := by
  match l, h with
  | [a, b, c, d, e, f, g], _ => exact ⟨a, b, c, d, e, f, g, rfl⟩
theorem pact_cells {fuel : Nat} {cs : List Value} {x : DataW H × List MemPlace} (h : DataW.trod enc Try.prog w base spare held fuel 36 cs = some x) : ∃ a b : Int, cs = [.int .i64 a, .int .i64 b] := by
  obtain ⟨hl, m, hg⟩ := struct_cells Try.underlying36 (by kernel_rfl) (by kernel_rfl) h
  obtain ⟨u0, u1, rfl⟩ := list2_ hl
  obtain ⟨v0, y0, k0, e0⟩ := hg 0 _ rfl
  obtain ⟨v1, y1, k1, e1⟩ := hg 1 _ rfl
  cases k0
  cases k1
  obtain ⟨a, q0, -, -⟩ := DataW.trod_int Try.underlying3 e0
  obtain ⟨b, q1, -, -⟩ := DataW.trod_int Try.underlying3 e1
  simp only [List.cons.injEq, and_true] at q0 q1
  subst q0 q1
  exact ⟨a, b, rfl⟩
theorem acts_len : ∀ l : List (Int × Int), (l.flatMap fun x => [Value.int .i64 x.1, Value.int .i64 x.2]).length = l.length * 2
  | [] => rfl
  | x :: l => by
    have := acts_len l
    rw [List.flatMap_cons, List.length_append, this]
    simp
    omega
theorem acts_inv : ∀ (l : List (Int × Int)) (j : Nat) (u : Value), (l.flatMap fun x => [Value.int .i64 x.1, Value.int .i64 x.2])[j]? = some u → ∃ k x, l[k]? = some x ∧ (j = k * 2 ∧ u = .int .i64 x.1 ∨ j = k * 2 + 1 ∧ u = .int .i64 x.2)
  | [], j, u, h => by simp at h
  | y :: l, 0, u, h => by simp at h; exact ⟨0, y, rfl, .inl ⟨rfl, h.symm⟩⟩
  | y :: l, 1, u, h => by simp at h; exact ⟨0, y, rfl, .inr ⟨rfl, h.symm⟩⟩
  | y :: l, j + 2, u, h => by
    obtain ⟨k, x, h1, h2⟩ := acts_inv l j u (by simpa using h)
    refine ⟨k + 1, x, by simpa using h1, ?_⟩
    rcases h2 with ⟨rfl, rfl⟩ | ⟨rfl, rfl⟩
    · exact .inl ⟨by omega, rfl⟩
    · exact .inr ⟨by omega, rfl⟩
theorem pacts_read {fuel : Nat} {cs : List Value} {x : DataW H × List MemPlace} (h : DataW.trod enc Try.prog w base spare held fuel 22 cs = some x) :
    ∃ (A : Option Addr) (l : List (Int × Int)) (cap : Nat), cs = [.slice A l.length cap] ∧ ActsAt w A l := by
  obtain ⟨A, n, cap, rfl, hn, hm, h0, hi⟩ := slice_read (sz := 2) Try.underlying22 (by kernel_rfl) (by omega) h
  obtain ⟨l, hl, hp⟩ := list_of (n := n) (p := fun i (x : Int × Int) => ∀ b off, A = some ⟨b, off, none⟩ → w.cell? ⟨b, off + i * 2 + 0, none⟩ = some (.int .i64 x.1) ∧ w.cell? ⟨b, off + i * 2 + 1, none⟩ = some (.int .i64 x.2)) (fun i hin => by
    obtain ⟨b, off, rfl, hb, hc⟩ := hi (by omega)
    obtain ⟨cs', fuel', y, hl, hcell, ht⟩ := hc i hin
    obtain ⟨p, q, rfl⟩ := pact_cells ht
    refine ⟨(p, q), fun b' off' e => ?_⟩
    cases e
    exact ⟨hcell 0 _ rfl, hcell 1 _ rfl⟩)
  subst hl
  refine ⟨A, l, cap, rfl, acts_len l, fun hn0 => ?_⟩
  obtain ⟨b, off, rfl, hb, -⟩ := hi hn0
  refine ⟨_, rfl, hb, fun j u hu => ?_⟩
  obtain ⟨k, x, hx, h2⟩ := acts_inv l j u hu
  obtain ⟨g1, g2⟩ := hp k x hx b off rfl
  have e : ∀ j, (Addr.add ⟨b, off, none⟩ j) = ⟨b, off + j, none⟩ := fun j => by unfold Addr.add; split <;> simp_all
  rw [e]
  rcases h2 with ⟨rfl, rfl⟩ | ⟨rfl, rfl⟩
  · exact g1
  · exact g2
theorem strs_read {fuel : Nat} {cs : List Value} {x : DataW H × List MemPlace} (h : DataW.trod enc Try.prog w base spare held fuel 26 cs = some x) :
    ∃ (A : Option Addr) (l : List ByteArray) (cap : Nat), cs = [.slice A l.length cap] ∧ Reads w w.heap.size 1 A l.length (l.map .string) := by
  obtain ⟨A, n, cap, rfl, hn, hm, h0, hi⟩ := slice_read (sz := 1) Try.underlying26 (by kernel_rfl) (by omega) h
  obtain ⟨l, hl, hp⟩ := list_of (n := n) (p := fun i (x : ByteArray) => ∀ b off, A = some ⟨b, off, none⟩ → w.cell? ⟨b, off + i * 1 + 0, none⟩ = some (.string x)) (fun i hin => by
    obtain ⟨b, off, rfl, hb, hc⟩ := hi (by omega)
    obtain ⟨cs', fuel', y, hl, hcell, ht⟩ := hc i hin
    obtain ⟨p, rfl, -⟩ := DataW.trod_string Try.underlying9 ht
    refine ⟨p, fun b' off' e => ?_⟩
    cases e
    exact hcell 0 _ rfl)
  subst hl
  refine ⟨A, l, cap, rfl, by simp, fun hn0 => ?_⟩
  obtain ⟨b, off, rfl, hb, -⟩ := hi hn0
  refine ⟨_, rfl, hb, fun j u hu => ?_⟩
  have e : ∀ j, (Addr.add ⟨b, off, none⟩ j) = ⟨b, off + j, none⟩ := fun j => by unfold Addr.add; split <;> simp_all
  rw [List.getElem?_map] at hu
  cases hj : l[j]? with
  | none => rw [hj] at hu; cases hu
  | some x =>
    rw [hj] at hu
    cases hu
    have := hp j x hj b off rfl
    rw [Nat.mul_one, Nat.add_zero] at this
    rw [e]
    exact this
set_option maxRecDepth 100000 in
theorem progress_cells {fuel : Nat} {cs : List Value} {x : DataW H × List MemPlace} (h : DataW.trod enc Try.prog w base spare held fuel 28 cs = some x) :
    ∃ (p : Prg) (A : Option Addr) (ks : List ByteArray) (c : Nat), cs = [.int .i64 p.ph, .string p.cu, .bool p.fu, .int .i64 p.sg, .int .i64 p.pt, .int .i64 p.bt, .slice A ks.length c] ∧ Reads w w.heap.size 1 A ks.length (ks.map .string) := by
  obtain ⟨xs, n, -, -, hlen, hxl, hg⟩ := DataW.trod_struct Try.underlying28 h
  have hC : Try.prog.cellsOf 28 = 7 := by kernel_rfl
  have c0 : Try.prog.cellsOf 23 = 1 := by kernel_rfl
  have c1 : Try.prog.cellsOf 9 = 1 := by kernel_rfl
  have c2 : Try.prog.cellsOf 4 = 1 := by kernel_rfl
  have c3 : Try.prog.cellsOf 25 = 2 := by kernel_rfl
  have c4 : Try.prog.cellsOf 3 = 1 := by kernel_rfl
  have c5 : Try.prog.cellsOf 26 = 1 := by kernel_rfl
  rw [hC] at hlen
  obtain ⟨u0, u1, u2, u3, u4, u5, u6, rfl⟩ := list7_ hlen
  have hxl6 : xs.length = 6 := hxl
  have g0 := hg 0 _ rfl
  have g1 := hg 1 _ rfl
  have g2 := hg 2 _ rfl
  have g3 := hg 3 _ rfl
  have g4 := hg 4 _ rfl
  have g5 := hg 5 _ rfl
  simp only [c0, c1, c2, c3, c4, c5, List.getElem?_eq_getElem (show 0 < xs.length by omega), List.getElem?_eq_getElem (show 1 < xs.length by omega), List.getElem?_eq_getElem (show 2 < xs.length by omega), List.getElem?_eq_getElem (show 3 < xs.length by omega), List.getElem?_eq_getElem (show 4 < xs.length by omega), List.getElem?_eq_getElem (show 5 < xs.length by omega)] at g0 g1 g2 g3 g4 g5
  obtain ⟨a0, q0, -, -⟩ := DataW.trod_int Try.underlying23 g0
  obtain ⟨a1, q1, -, -⟩ := DataW.trod_string Try.underlying9 g1
  obtain ⟨a2, q2, -⟩ := DataW.trod_bool Try.underlying4 g2
  obtain ⟨hl3, m, hg3⟩ := struct_cells Try.underlying25 (by kernel_rfl) (by kernel_rfl) g3
  obtain ⟨v0, y0, k0, e0⟩ := hg3 0 _ rfl
  obtain ⟨v1, y1, k1, e1⟩ := hg3 1 _ rfl
  obtain ⟨a3, q3, -, -⟩ := DataW.trod_int Try.underlying3 e0
  obtain ⟨a4, q4, -, -⟩ := DataW.trod_int Try.underlying3 e1
  obtain ⟨a5, q5, -, -⟩ := DataW.trod_int Try.underlying3 g4
  obtain ⟨A, l, cap, q6, hr⟩ := strs_read g5
  simp [c0, c1, c2, c3, c4, c5] at q0 q1 q2 k0 k1 q3 q4 q5 q6
  subst q0 q1 q2 q5 q6 k0 k1
  subst q3 q4
  exact ⟨⟨a0, a1, a2, a3, a4, a5⟩, A, l, cap, rfl, hr⟩
set_option maxRecDepth 100000 in
theorem progress_arg {r : Reach} {b0 : Nat} {v : Value} {d : DataW H} {p : List MemPlace} (hv : Value.okWide Try.prog w r b0 28 v) (h : DataW.Trod enc Try.prog w base spare held 28 v d p) :
    ∃ (p : Prg) (A : Option Addr) (ks : List ByteArray) (c : Nat), v = p.v A ks.length c ∧ Reads w w.heap.size 1 A ks.length (ks.map .string) := by
  have hs := okWide_struct Try.underlying28 hv
  generalize Try.prog.cellsOf 28 = sz at hs
  obtain ⟨cs, rfl, -⟩ := hs
  obtain ⟨fuel, hf⟩ := h
  obtain ⟨p, A, ks, c, he, hr⟩ := progress_cells hf
  refine ⟨p, A, ks, c, ?_, hr⟩
  have he' : cs.toList = [.int .i64 p.ph, .string p.cu, .bool p.fu, .int .i64 p.sg, .int .i64 p.pt, .int .i64 p.bt, .slice A ks.length c] := he
  rw [show cs = ([.int .i64 p.ph, .string p.cu, .bool p.fu, .int .i64 p.sg, .int .i64 p.pt, .int .i64 p.bt, .slice A ks.length c] : List Value).toArray by rw [← he']]
  rfl
set_option maxRecDepth 100000 in
theorem pacts_arg {v : Value} {d : DataW H} {p : List MemPlace} {r : Reach} {b0 : Nat} (hv : Value.okWide Try.prog w r b0 22 v) (h : DataW.Trod enc Try.prog w base spare held 22 v d p) :
    ∃ (A : Option Addr) (l : List (Int × Int)) (cap : Nat), v = .slice A l.length cap ∧ ActsAt w A l := by
  obtain ⟨a1, len1, cap1, rfl⟩ := okWide_slice Try.underlying22 hv
  obtain ⟨fuel, hf⟩ := h
  obtain ⟨A, l, c, he, hr⟩ := pacts_read hf
  simp only [Value.cells, List.cons.injEq, and_true, Value.slice.injEq] at he
  obtain ⟨rfl, rfl, rfl⟩ := he
  exact ⟨_, l, _, rfl, hr⟩
end
end Go.Proofs.Ytnajjhgbombboaa
