/-
  What CodecSchemas reaches beside the base.
-/
import Derived.Test.YtkklmflclmgjeaaGreatDoorE1CodecSchemas
/-
  The codec: DecodeSchema, by the document.
-/
set_option linter.unusedVariables false
set_option linter.unusedSimpArgs false
set_option linter.unusedVariables false
set_option linter.unusedSimpArgs false
namespace Go.Proofs.YtkklmflclmgjeaaGreatDoor
open Go.RowKit Go.Shelf Go.Lib
attribute [local go_sem] Oper.semAt_some

theorem zmeet {P : Program} {c : Code} {Q Q' : Exit → Act → World → Prop} {a : Act} {w : World} (h : c.wp P Q' a w) (k : ∀ e a' V, Q' e a' V → Q e a' V) : c.wp P Q a w := Code.wp_mono k h
theorem zinBlock {id : Nat} {Q : Exit → Act → World → Prop} {a : Act} {w : World} (h : Q .normal a w) : Exit.inBlock id Q (.exit id) a w := by
  unfold Exit.inBlock
  simp only [if_true]
  exact h
theorem zinBlockRet {id : Nat} {Q : Exit → Act → World → Prop} {a : Act} {w : World} (h : Q .ret a w) : Exit.inBlock id Q .ret a w := by
  unfold Exit.inBlock
  simpa using h
/-- Where the schema and the reader stand. -/
def ESt (w : World) (br : Nat) (v0 v1 v2 vr : Value) (bad : Bool) (V : World) : Prop := Bel w V ∧ Blk V w.heap.size 26 #[.slice none 0 0, .slice none 0 0, .slice none 0 0] ∧ Blk V (w.heap.size + 1) 26 #[v0, v1, v2] ∧ Blk V br 138 #[vr, .bool bad] ∧ w.heap.size + 2 ≤ br
section
variable {w V V' : World} {br : Nat} {v0 v1 v2 vr : Value} {bad : Bool}
theorem ESt.grown (h : ESt w br v0 v1 v2 vr bad V) {row : Option Nat} (hg : V.grownBy V' row) (hr : ∀ j, row = some j → br + 1 ≤ j) : ESt w br v0 v1 v2 vr bad V' := by
  obtain ⟨h1, h2, h3, h4, h5⟩ := h
  exact ⟨Below.grown h1 hg h1.size (fun j e => by have := hr j e; omega), h2.grown hg (fun e => by have := hr _ e.symm; omega), h3.grown hg (fun e => by have := hr _ e.symm; omega), h4.grown hg (fun e => by have := hr _ e.symm; omega), h5⟩
theorem ESt.bel (h : ESt w br v0 v1 v2 vr bad V) (hb : Bel V V') : ESt w br v0 v1 v2 vr bad V' := h.grown (hb.grown none) (fun j e => by cases e)
theorem ESt.reader (h : ESt w br v0 v1 v2 vr bad V) (u : Value) (b : Bool) : ESt w br v0 v1 v2 u b ((V.setCell ⟨br, 0, none⟩ u).setCell ⟨br, 1, none⟩ (.bool b)) := by
  obtain ⟨h1, h2, h3, h4, h5⟩ := h
  exact ⟨(h1.setCell (by dsimp only; omega) _).setCell (by dsimp only; omega) _, (h2.far (by dsimp only; omega) _).far (by dsimp only; omega) _, (h3.far (by dsimp only; omega) _).far (by dsimp only; omega) _, (h4.set_ 0 u).set_ 1 (.bool b), h5⟩
theorem ESt.reader0 (h : ESt w br v0 v1 v2 vr bad V) (u : Value) : ESt w br v0 v1 v2 u bad (V.setCell ⟨br, 0, none⟩ u) := by
  obtain ⟨h1, h2, h3, h4, h5⟩ := h
  exact ⟨h1.setCell (by dsimp only; omega) _, h2.far (by dsimp only; omega) _, h3.far (by dsimp only; omega) _, h4.set_ 0 u, h5⟩
theorem ESt.set0 (h : ESt w br v0 v1 v2 vr bad V) (u : Value) : ESt w br u v1 v2 vr bad (V.setCell ⟨w.heap.size + 1, 0, none⟩ u) := by
  obtain ⟨h1, h2, h3, h4, h5⟩ := h
  exact ⟨h1.setCell (Nat.le_succ _) _, h2.far (by simp) _, h3.set_ 0 u, h4.far (by dsimp only; omega) _, h5⟩
theorem ESt.set1 (h : ESt w br v0 v1 v2 vr bad V) (u : Value) : ESt w br v0 u v2 vr bad (V.setCell ⟨w.heap.size + 1, 1, none⟩ u) := by
  obtain ⟨h1, h2, h3, h4, h5⟩ := h
  exact ⟨h1.setCell (Nat.le_succ _) _, h2.far (by simp) _, h3.set_ 1 u, h4.far (by dsimp only; omega) _, h5⟩
theorem ESt.set2 (h : ESt w br v0 v1 v2 vr bad V) (u : Value) : ESt w br v0 v1 u vr bad (V.setCell ⟨w.heap.size + 1, 2, none⟩ u) := by
  obtain ⟨h1, h2, h3, h4, h5⟩ := h
  exact ⟨h1.setCell (Nat.le_succ _) _, h2.far (by simp) _, h3.set_ 2 u, h4.far (by dsimp only; omega) _, h5⟩
theorem ESt.lt (h : ESt w br v0 v1 v2 vr bad V) : br + 1 ≤ V.heap.size := h.2.2.2.1.lt
theorem ESt.cells (h : ESt w br v0 v1 v2 vr bad V) : (V.cell? ⟨w.heap.size + 1, 0, none⟩ = some v0 ∧ V.cell? ⟨w.heap.size + 1, 1, none⟩ = some v1 ∧ V.cell? ⟨w.heap.size + 1, 2, none⟩ = some v2) ∧ (V.frozen? ⟨w.heap.size + 1, 0, none⟩ = false ∧ V.frozen? ⟨w.heap.size + 1, 1, none⟩ = false ∧ V.frozen? ⟨w.heap.size + 1, 2, none⟩ = false) ∧ (V.cell? ⟨br, 0, none⟩ = some vr ∧ V.cell? ⟨br, 1, none⟩ = some (.bool bad)) ∧ V.frozen? ⟨br, 0, none⟩ = false ∧ V.frozen? ⟨br, 1, none⟩ = false :=
  ⟨⟨(h.2.2.1.cell 0).trans rfl, (h.2.2.1.cell 1).trans rfl, (h.2.2.1.cell 2).trans rfl⟩, ⟨h.2.2.1.frozen 0, h.2.2.1.frozen 1, h.2.2.1.frozen 2⟩, ⟨(h.2.2.2.1.cell 0).trans rfl, (h.2.2.2.1.cell 1).trans rfl⟩, h.2.2.2.1.frozen 0, h.2.2.2.1.frozen 1⟩
theorem ESt.res (h : ESt w br v0 v1 v2 vr bad V) : (V.cell? ⟨w.heap.size, 0, none⟩ = some (.slice none 0 0) ∧ V.cell? ⟨w.heap.size, 1, none⟩ = some (.slice none 0 0) ∧ V.cell? ⟨w.heap.size, 2, none⟩ = some (.slice none 0 0)) ∧ (V.frozen? ⟨w.heap.size, 0, none⟩ = false ∧ V.frozen? ⟨w.heap.size, 1, none⟩ = false ∧ V.frozen? ⟨w.heap.size, 2, none⟩ = false) :=
  ⟨⟨(h.2.1.cell 0).trans rfl, (h.2.1.cell 1).trans rfl, (h.2.1.cell 2).trans rfl⟩, h.2.1.frozen 0, h.2.1.frozen 1, h.2.1.frozen 2⟩
end
/-- What lies in the first world is seen in a later one, and the other way. -/
theorem BsI.up {w V : World} {v : Value} {s : List UInt8} (h : BsI w.heap.size w v s) (hb : Bel w V) : BsI w.heap.size V v s := h.keep fun p hp => hb.cell hp
theorem BsI.down {w V : World} {v : Value} {s : List UInt8} (h : BsI w.heap.size V v s) (hb : Bel w V) : BsI w.heap.size w v s := h.keep fun p hp => (hb.cell hp).symm
theorem ints_low {V : World} {b b' : Nat} {T : TypeId} {s : Nat} {v : Value} {n : Nat} {xs : List Value} (h : V.ownsRow b T s v n xs) (hb : b' ≤ b) : V.ownsRow b' T s v n xs := by
  refine ⟨h.1, ?_⟩
  rcases h.2 with h2 | ⟨g, cap, cur, hv, hgb, q⟩
  · exact .inl h2
  · exact .inr ⟨g, cap, cur, hv, by omega, q⟩
set_option maxRecDepth 100000 in
set_option maxHeartbeats 16000000 in
theorem zelim {w : World} {br : Nat} {s : List UInt8} {R : Option (List Col × List Int × List (List Int))} {Ab : Option Addr} {cb n : Nat} {Q : Exit → Act → World → Prop}
    (h1 : ∀ (V : World) (z3 z7 z8 z9 z10 z11 z12 z13 z18 z19 z20 z21 z22 z23 z24 z25 z26 z27 z28 z29 z30 z31 z32 z33 z34 z35 z36 z37 z38 z39 z40 z41 z42 z43 z44 z45 z46 z47 z48 z49 z50 z51 z52 z53 z54 z55 z56 z57 z58 z59 z60 z61 z62 z63 z64 z65 z66 z67 z68 z69 z70 z71 z72 z73 z74 z75 z76 z77 z78 : Value) (k : Nat) (L : List Col) (vr : Value) (r' : List UInt8) (bad : Bool) (A : Option Addr) (c : Nat), ((L.length = k ∧ k ≤ 9 ∧ r'.length ≤ s.length) ∧ Hid (∀ c ∈ L, c.name.size ≤ 1000000) ∧ Hid (ESt w br (.slice A k c) (.slice none 0 0) (.slice none 0 0) vr bad V) ∧ Hid (BsI w.heap.size w vr r') ∧ Hid (V.ownsRow (br + 1) 44 4 (.slice A k c) k (crows L)) ∧ Hid (∀ c0 k0 u0, rightS c0 k0 u0 = true → encSch c0 k0 u0 = s → L = c0 ∧ bad = false ∧ r' = (encList k0 ++ (numB u0.length ++ encLists u0)))) → Q (.exit 0) { tmps := #[.slice Ab s.length cb, undef, .pointer (some ⟨w.heap.size, 0, none⟩), z3, .pointer (some ⟨w.heap.size + 1, 0, none⟩), .pointer (some ⟨br, 0, none⟩), .int .i64 n, z7, z8, z9, z10, z11, z12, z13, undef, undef, undef, undef, z18, z19, z20, z21, z22, z23, z24, z25, z26, z27, z28, z29, z30, z31, z32, z33, z34, z35, z36, z37, z38, z39, z40, z41, z42, z43, z44, z45, z46, z47, z48, z49, z50, z51, z52, z53, z54, z55, z56, z57, z58, z59, z60, z61, z62, z63, z64, z65, z66, z67, z68, z69, z70, z71, z72, z73, z74, z75, z76, z77, z78, undef, undef, undef, undef, undef, undef, undef, undef, undef, undef, undef, undef, undef, undef, undef, undef, undef, undef, undef, undef, undef, undef, undef, undef, undef, undef, undef, undef, undef, undef, undef, undef, undef, undef, undef, undef, undef, undef, undef, undef, undef, undef, undef, undef, undef, undef, undef, undef, undef, undef, undef], defers := [] } V)
    (h2 : ∀ (V : World) (z7 z8 z9 z10 z11 z12 z13 z18 z19 z20 z21 z22 z23 z24 z25 z26 z27 z28 z29 z30 z31 z32 z33 z34 z35 z36 z37 z38 z39 z40 z41 z42 z43 z44 z45 z46 z47 z48 z49 z50 z51 z52 z53 z54 z55 z56 z57 z58 z59 z60 z61 z62 z63 z64 z65 z66 z67 z68 z69 z70 z71 z72 z73 z74 z75 z76 z77 z78 : Value), (R = none ∧ (V.cell? ⟨w.heap.size, 0, none⟩ = some (.slice none 0 0) ∧ V.cell? ⟨w.heap.size, 1, none⟩ = some (.slice none 0 0) ∧ V.cell? ⟨w.heap.size, 2, none⟩ = some (.slice none 0 0)) ∧ Bel w V) → Q .ret { tmps := #[.slice Ab s.length cb, undef, .pointer (some ⟨w.heap.size, 0, none⟩), .int .i64 140, .pointer (some ⟨w.heap.size + 1, 0, none⟩), .pointer (some ⟨br, 0, none⟩), .int .i64 n, z7, z8, z9, z10, z11, z12, z13, undef, undef, undef, undef, z18, z19, z20, z21, z22, z23, z24, z25, z26, z27, z28, z29, z30, z31, z32, z33, z34, z35, z36, z37, z38, z39, z40, z41, z42, z43, z44, z45, z46, z47, z48, z49, z50, z51, z52, z53, z54, z55, z56, z57, z58, z59, z60, z61, z62, z63, z64, z65, z66, z67, z68, z69, z70, z71, z72, z73, z74, z75, z76, z77, z78, undef, undef, undef, undef, undef, undef, undef, undef, undef, undef, undef, undef, undef, undef, undef, undef, undef, undef, undef, undef, undef, undef, undef, undef, undef, undef, undef, undef, undef, undef, undef, undef, undef, undef, undef, undef, undef, undef, undef, undef, undef, undef, undef, undef, undef, undef, undef, undef, undef, undef, undef], defers := [] } V) :
    ∀ e a' V, (fun (e : Exit) (a' : Act) (V : World) =>  (∃ (z3 z7 z8 z9 z10 z11 z12 z13 z18 z19 z20 z21 z22 z23 z24 z25 z26 z27 z28 z29 z30 z31 z32 z33 z34 z35 z36 z37 z38 z39 z40 z41 z42 z43 z44 z45 z46 z47 z48 z49 z50 z51 z52 z53 z54 z55 z56 z57 z58 z59 z60 z61 z62 z63 z64 z65 z66 z67 z68 z69 z70 z71 z72 z73 z74 z75 z76 z77 z78 : Value) (k : Nat) (L : List Col) (vr : Value) (r' : List UInt8) (bad : Bool) (A : Option Addr) (c : Nat), e = .exit 0 ∧ a' = { tmps := #[.slice Ab s.length cb, undef, .pointer (some ⟨w.heap.size, 0, none⟩), z3, .pointer (some ⟨w.heap.size + 1, 0, none⟩), .pointer (some ⟨br, 0, none⟩), .int .i64 n, z7, z8, z9, z10, z11, z12, z13, undef, undef, undef, undef, z18, z19, z20, z21, z22, z23, z24, z25, z26, z27, z28, z29, z30, z31, z32, z33, z34, z35, z36, z37, z38, z39, z40, z41, z42, z43, z44, z45, z46, z47, z48, z49, z50, z51, z52, z53, z54, z55, z56, z57, z58, z59, z60, z61, z62, z63, z64, z65, z66, z67, z68, z69, z70, z71, z72, z73, z74, z75, z76, z77, z78, undef, undef, undef, undef, undef, undef, undef, undef, undef, undef, undef, undef, undef, undef, undef, undef, undef, undef, undef, undef, undef, undef, undef, undef, undef, undef, undef, undef, undef, undef, undef, undef, undef, undef, undef, undef, undef, undef, undef, undef, undef, undef, undef, undef, undef, undef, undef, undef, undef, undef, undef], defers := [] } ∧ L.length = k ∧ k ≤ 9 ∧ r'.length ≤ s.length ∧ Hid (∀ c ∈ L, c.name.size ≤ 1000000) ∧ Hid (ESt w br (.slice A k c) (.slice none 0 0) (.slice none 0 0) vr bad V) ∧ Hid (BsI w.heap.size w vr r') ∧ Hid (V.ownsRow (br + 1) 44 4 (.slice A k c) k (crows L)) ∧ Hid (∀ c0 k0 u0, rightS c0 k0 u0 = true → encSch c0 k0 u0 = s → L = c0 ∧ bad = false ∧ r' = (encList k0 ++ (numB u0.length ++ encLists u0)))) ∨ ∃ (z7 z8 z9 z10 z11 z12 z13 z18 z19 z20 z21 z22 z23 z24 z25 z26 z27 z28 z29 z30 z31 z32 z33 z34 z35 z36 z37 z38 z39 z40 z41 z42 z43 z44 z45 z46 z47 z48 z49 z50 z51 z52 z53 z54 z55 z56 z57 z58 z59 z60 z61 z62 z63 z64 z65 z66 z67 z68 z69 z70 z71 z72 z73 z74 z75 z76 z77 z78 : Value), e = .ret ∧ a' = { tmps := #[.slice Ab s.length cb, undef, .pointer (some ⟨w.heap.size, 0, none⟩), .int .i64 140, .pointer (some ⟨w.heap.size + 1, 0, none⟩), .pointer (some ⟨br, 0, none⟩), .int .i64 n, z7, z8, z9, z10, z11, z12, z13, undef, undef, undef, undef, z18, z19, z20, z21, z22, z23, z24, z25, z26, z27, z28, z29, z30, z31, z32, z33, z34, z35, z36, z37, z38, z39, z40, z41, z42, z43, z44, z45, z46, z47, z48, z49, z50, z51, z52, z53, z54, z55, z56, z57, z58, z59, z60, z61, z62, z63, z64, z65, z66, z67, z68, z69, z70, z71, z72, z73, z74, z75, z76, z77, z78, undef, undef, undef, undef, undef, undef, undef, undef, undef, undef, undef, undef, undef, undef, undef, undef, undef, undef, undef, undef, undef, undef, undef, undef, undef, undef, undef, undef, undef, undef, undef, undef, undef, undef, undef, undef, undef, undef, undef, undef, undef, undef, undef, undef, undef, undef, undef, undef, undef, undef, undef], defers := [] } ∧ R = none ∧ (V.cell? ⟨w.heap.size, 0, none⟩ = some (.slice none 0 0) ∧ V.cell? ⟨w.heap.size, 1, none⟩ = some (.slice none 0 0) ∧ V.cell? ⟨w.heap.size, 2, none⟩ = some (.slice none 0 0)) ∧ Bel w V) e a' V → Q e a' V := by
  rintro e a' V (⟨z3, z7, z8, z9, z10, z11, z12, z13, z18, z19, z20, z21, z22, z23, z24, z25, z26, z27, z28, z29, z30, z31, z32, z33, z34, z35, z36, z37, z38, z39, z40, z41, z42, z43, z44, z45, z46, z47, z48, z49, z50, z51, z52, z53, z54, z55, z56, z57, z58, z59, z60, z61, z62, z63, z64, z65, z66, z67, z68, z69, z70, z71, z72, z73, z74, z75, z76, z77, z78, k, L, vr, r', bad, A, c, rfl, rfl, hL, hk, hr, h⟩ | ⟨z7, z8, z9, z10, z11, z12, z13, z18, z19, z20, z21, z22, z23, z24, z25, z26, z27, z28, z29, z30, z31, z32, z33, z34, z35, z36, z37, z38, z39, z40, z41, z42, z43, z44, z45, z46, z47, z48, z49, z50, z51, z52, z53, z54, z55, z56, z57, z58, z59, z60, z61, z62, z63, z64, z65, z66, z67, z68, z69, z70, z71, z72, z73, z74, z75, z76, z77, z78, rfl, rfl, h⟩)
  · exact h1 V z3 z7 z8 z9 z10 z11 z12 z13 z18 z19 z20 z21 z22 z23 z24 z25 z26 z27 z28 z29 z30 z31 z32 z33 z34 z35 z36 z37 z38 z39 z40 z41 z42 z43 z44 z45 z46 z47 z48 z49 z50 z51 z52 z53 z54 z55 z56 z57 z58 z59 z60 z61 z62 z63 z64 z65 z66 z67 z68 z69 z70 z71 z72 z73 z74 z75 z76 z77 z78 k L vr r' bad A c ⟨⟨hL, hk, hr⟩, h⟩
  · exact h2 V z7 z8 z9 z10 z11 z12 z13 z18 z19 z20 z21 z22 z23 z24 z25 z26 z27 z28 z29 z30 z31 z32 z33 z34 z35 z36 z37 z38 z39 z40 z41 z42 z43 z44 z45 z46 z47 z48 z49 z50 z51 z52 z53 z54 z55 z56 z57 z58 z59 z60 z61 z62 z63 z64 z65 z66 z67 z68 z69 z70 z71 z72 z73 z74 z75 z76 z77 z78 h
set_option maxRecDepth 100000 in
set_option maxHeartbeats 16000000 in
theorem r4DecodeSchema_any (vb : Value) (s : List UInt8) (hs : s.length ≤ 1000000) (w : World) (hb : BsAt w vb s) : Calls Tryz.prog 49 #[vb] w (GivesSch (decS s) w) := by
  obtain ⟨R, hR⟩ : ∃ R, R = decS s := ⟨_, rfl⟩
  rw [← hR]
  have HRS : Hid (∀ c0 k0 u0, R = some (c0, k0, u0) → rightS c0 k0 u0 = true ∧ encSch c0 k0 u0 = s) := fun c0 k0 u0 h => decS_some (hR.symm.trans h)
  have HRE : Hid (∀ c0 k0 u0, rightS c0 k0 u0 = true → encSch c0 k0 u0 = s → R = some (c0, k0, u0)) := fun c0 k0 u0 h1 h2 => by rw [hR, ← h2]; exact decS_enc h1
  have HNO : Hid ((∀ c0 k0 u0, ¬ R = some (c0, k0, u0)) → R = none) := fun h => by
    cases R with
    | none => rfl
    | some q => exact (h q.1 q.2.1 q.2.2 rfl).elim
  have HBS := Lib.hid hb
  obtain ⟨Ab, cb, rfl, -⟩ := id hb
  obtain ⟨i0, hi0, hz0, hz1, hz2⟩ := info_parts zinfoC
  obtain ⟨j0, hj0, hy0, hy1, hy2⟩ := info_parts zinfoIs
  have hp4 : (0 : Nat) < 4 := by omega
  have hp1 : (0 : Nat) < 1 := by omega
  obtain ⟨W0, hW0⟩ : ∃ V, V = (w.alloc (.cells #[.slice none 0 0, .slice none 0 0, .slice none 0 0] 26)).alloc (.cells #[.slice none 0 0, .slice none 0 0, .slice none 0 0] 26) := ⟨_, rfl⟩
  have hb0 : Bel w W0 := by rw [hW0]; exact ((Bel.refl w).alloc _).alloc _
  have k1 : Blk W0 w.heap.size 26 #[.slice none 0 0, .slice none 0 0, .slice none 0 0] := by rw [hW0]; exact (Blk.new w _ _).alloc _
  have k2 : Blk W0 (w.heap.size + 1) 26 #[.slice none 0 0, .slice none 0 0, .slice none 0 0] := by
    rw [hW0]
    have := Blk.new (w.alloc (.cells #[.slice none 0 0, .slice none 0 0, .slice none 0 0] 26)) 26 #[.slice none 0 0, .slice none 0 0, .slice none 0 0]
    simpa using this
  have HN0 := Lib.hid (r4number_any (.slice Ab s.length cb) s false hs w.heap.size W0 hb0.size (hb.low.up hb0))
  have HB0 := Lib.hid hb0
  have K1 := Lib.hid k1
  have K2 := Lib.hid k2
  clear hR hb k1 k2 hb0
  go_enter Tryz.func49, Tryz.ntmps49
  go_wp2_with fail
  rw [← hW0]
  clear hW0
  refine HN0.out.mono ?_
  rintro e w1 ⟨v1, r1, bad1, n, rfl, hv1, hr1, hn1, hb1, htr⟩
  obtain ⟨A1, cc1, hv1e, -⟩ := id hv1
  subst hv1e
  have hnI : (n : Int) ≤ 1000 := by omega
  have hbw1 := HB0.out.then_ hb1
  have J1 := (K1.out.grown (hb1.grown none) (fun e => by cases e)).alloc (.cells #[.slice A1 r1.length cc1, .bool bad1] 138)
  have J2 := (K2.out.grown (hb1.grown none) (fun e => by cases e)).alloc (.cells #[.slice A1 r1.length cc1, .bool bad1] 138)
  obtain ⟨br, hbr⟩ : ∃ b, b = w1.heap.size := ⟨_, rfl⟩
  have hbr2 : w.heap.size + 2 ≤ br := by rw [hbr]; exact (K2.out.grown (hb1.grown none) (fun e => by cases e)).lt
  have E1 : Hid (ESt w br (.slice none 0 0) (.slice none 0 0) (.slice none 0 0) (.slice A1 r1.length cc1) bad1 (w1.alloc (.cells #[.slice A1 r1.length cc1, .bool bad1] 138))) := ⟨hbw1.alloc _, J1, J2, by rw [hbr]; exact Blk.new _ _ _, hbr2⟩
  have HV1 := Lib.hid (hv1.down hbw1)
  have HT1 : Hid (∀ c0 k0 u0, rightS c0 k0 u0 = true → encSch c0 k0 u0 = s → n = c0.length ∧ bad1 = false ∧ r1 = encCols c0 ++ (encList k0 ++ (numB u0.length ++ encLists u0))) := fun c0 k0 u0 h1 h2 => by
    have := right_small h1
    have h3 := htr c0.length (encCols c0 ++ (encList k0 ++ (numB u0.length ++ encLists u0))) rfl (by omega) (by rw [← h2]; rfl)
    exact ⟨h3.1, h3.2.2, h3.2.1⟩
  clear hv1 hb1 htr hbw1 J1 J2 HN0 K1 K2 HB0
  go_wp2_with fail
  rw [← hbr]
  clear hbr
  refine zmeet (Q' := fun e a' V => (∃ (z3 z7 z8 z9 z10 z11 z12 z13 z18 z19 z20 z21 z22 z23 z24 z25 z26 z27 z28 z29 z30 z31 z32 z33 z34 z35 z36 z37 z38 z39 z40 z41 z42 z43 z44 z45 z46 z47 z48 z49 z50 z51 z52 z53 z54 z55 z56 z57 z58 z59 z60 z61 z62 z63 z64 z65 z66 z67 z68 z69 z70 z71 z72 z73 z74 z75 z76 z77 z78 : Value) (k : Nat) (L : List Col) (vr : Value) (r' : List UInt8) (bad : Bool) (A : Option Addr) (c : Nat), e = .exit 0 ∧ a' = { tmps := #[.slice Ab s.length cb, undef, .pointer (some ⟨w.heap.size, 0, none⟩), z3, .pointer (some ⟨w.heap.size + 1, 0, none⟩), .pointer (some ⟨br, 0, none⟩), .int .i64 n, z7, z8, z9, z10, z11, z12, z13, undef, undef, undef, undef, z18, z19, z20, z21, z22, z23, z24, z25, z26, z27, z28, z29, z30, z31, z32, z33, z34, z35, z36, z37, z38, z39, z40, z41, z42, z43, z44, z45, z46, z47, z48, z49, z50, z51, z52, z53, z54, z55, z56, z57, z58, z59, z60, z61, z62, z63, z64, z65, z66, z67, z68, z69, z70, z71, z72, z73, z74, z75, z76, z77, z78, undef, undef, undef, undef, undef, undef, undef, undef, undef, undef, undef, undef, undef, undef, undef, undef, undef, undef, undef, undef, undef, undef, undef, undef, undef, undef, undef, undef, undef, undef, undef, undef, undef, undef, undef, undef, undef, undef, undef, undef, undef, undef, undef, undef, undef, undef, undef, undef, undef, undef, undef], defers := [] } ∧ L.length = k ∧ k ≤ 9 ∧ r'.length ≤ s.length ∧ Hid (∀ c ∈ L, c.name.size ≤ 1000000) ∧ Hid (ESt w br (.slice A k c) (.slice none 0 0) (.slice none 0 0) vr bad V) ∧ Hid (BsI w.heap.size w vr r') ∧ Hid (V.ownsRow (br + 1) 44 4 (.slice A k c) k (crows L)) ∧ Hid (∀ c0 k0 u0, rightS c0 k0 u0 = true → encSch c0 k0 u0 = s → L = c0 ∧ bad = false ∧ r' = (encList k0 ++ (numB u0.length ++ encLists u0)))) ∨ ∃ (z7 z8 z9 z10 z11 z12 z13 z18 z19 z20 z21 z22 z23 z24 z25 z26 z27 z28 z29 z30 z31 z32 z33 z34 z35 z36 z37 z38 z39 z40 z41 z42 z43 z44 z45 z46 z47 z48 z49 z50 z51 z52 z53 z54 z55 z56 z57 z58 z59 z60 z61 z62 z63 z64 z65 z66 z67 z68 z69 z70 z71 z72 z73 z74 z75 z76 z77 z78 : Value), e = .ret ∧ a' = { tmps := #[.slice Ab s.length cb, undef, .pointer (some ⟨w.heap.size, 0, none⟩), .int .i64 140, .pointer (some ⟨w.heap.size + 1, 0, none⟩), .pointer (some ⟨br, 0, none⟩), .int .i64 n, z7, z8, z9, z10, z11, z12, z13, undef, undef, undef, undef, z18, z19, z20, z21, z22, z23, z24, z25, z26, z27, z28, z29, z30, z31, z32, z33, z34, z35, z36, z37, z38, z39, z40, z41, z42, z43, z44, z45, z46, z47, z48, z49, z50, z51, z52, z53, z54, z55, z56, z57, z58, z59, z60, z61, z62, z63, z64, z65, z66, z67, z68, z69, z70, z71, z72, z73, z74, z75, z76, z77, z78, undef, undef, undef, undef, undef, undef, undef, undef, undef, undef, undef, undef, undef, undef, undef, undef, undef, undef, undef, undef, undef, undef, undef, undef, undef, undef, undef, undef, undef, undef, undef, undef, undef, undef, undef, undef, undef, undef, undef, undef, undef, undef, undef, undef, undef, undef, undef, undef, undef, undef, undef], defers := [] } ∧ R = none ∧ (V.cell? ⟨w.heap.size, 0, none⟩ = some (.slice none 0 0) ∧ V.cell? ⟨w.heap.size, 1, none⟩ = some (.slice none 0 0) ∧ V.cell? ⟨w.heap.size, 2, none⟩ = some (.slice none 0 0)) ∧ Bel w V) ?_ (zelim ?_ ?_)
  · go_loopw [7] (fun i wr => ∃ (k : Nat) (L : List Col) (vr : Value) (r' : List UInt8) (bad : Bool) (A : Option Addr) (c : Nat), k ≤ n ∧ k ≤ 9 ∧ i = .int .i64 k ∧ L.length = k ∧ r'.length ≤ s.length ∧ Hid (∀ c ∈ L, c.name.size ≤ 1000000) ∧ Hid (ESt w br (.slice A k c) (.slice none 0 0) (.slice none 0 0) vr bad wr) ∧ Hid (BsI w.heap.size w vr r') ∧ Hid (wr.ownsRow (br + 1) 44 4 (.slice A k c) k (crows L)) ∧ Hid (∀ c0 k0 u0, rightS c0 k0 u0 = true → encSch c0 k0 u0 = s → n = c0.length ∧ bad = false ∧ L = c0.take k ∧ r' = encCols (c0.drop k) ++ (encList k0 ++ (numB u0.length ++ encLists u0)))) (fun i _ => 9 - (intOf i).toNat)
    case atStart => exact ⟨0, [], _, r1, bad1, none, 0, Nat.zero_le _, Nat.zero_le _, rfl, rfl, hr1, fun c h => by simp at h, E1.out, HV1.out, World.ownsRow_nil _ _ _ _, fun c0 k0 u0 h1 h2 => ⟨(HT1.out c0 k0 u0 h1 h2).1, (HT1.out c0 k0 u0 h1 h2).2.1, rfl, (HT1.out c0 k0 u0 h1 h2).2.2⟩⟩
    case round =>
      obtain ⟨k, L, vr, r', bad, A, c, hkn, hk9, rfl, hL, hr', HNM, HE, HV, HO, HT⟩ := hrel
      obtain ⟨Ar, cr, hvre, -⟩ := id HV.out
      subst hvre
      obtain ⟨⟨s0, s1, s2⟩, ⟨f0, f1, f2⟩, ⟨t0, t1⟩, g0, g1⟩ := HE.out.cells
      obtain ⟨⟨q0, q1, q2⟩, o0, o1, o2⟩ := HE.out.res
      by_cases hgo : k < n ∧ k < 9 ∧ bad = false
      · obtain ⟨hlt, hlt9, rfl⟩ := hgo
        have hkI : (k : Int) < n := by omega
        have hkJ : (k : Int) < 9 := by omega
        have HRT := Lib.hid (r2ReadText_any _ r' (by omega) wr ((HV.out.up HE.out.1).at_ HE.out.1.size))
        cases hx0 : rdText r' with
        | none =>
          rw [hx0] at HRT
          unfold textV at HRT
          obtain rfl : R = none := HNO.out fun c0 k0 u0 h => by
            obtain ⟨h1, h2⟩ := HRS.out c0 k0 u0 h
            obtain ⟨a1, a2, a3, a4⟩ := HT.out c0 k0 u0 h1 h2
            have hk0 : k < c0.length := by omega
            have hc := (right_small h1).1 c0[k] (List.getElem_mem hk0)
            rw [List.drop_eq_getElem_cons hk0] at a4
            have hl : (c0[k]).name.data.toList.length = (c0[k]).name.size := rfl
            have a5 : r' = textB (c0[k]).name.data.toList ++ (numB (c0[k]).t.toNat ++ (numB (c0[k]).z.toNat ++ (numB (bNat (c0[k]).null) ++ (encCols (c0.drop (k + 1)) ++ (encList k0 ++ (numB u0.length ++ encLists u0)))))) := by
              rw [a4]
              show encCol c0[k] ++ encCols _ ++ _ = _
              unfold encCol
              simp only [List.append_assoc]
            have a6 := rdText_enc (c0[k]).name.data.toList (by rw [hl]; omega) (numB (c0[k]).t.toNat ++ (numB (c0[k]).z.toNat ++ (numB (bNat (c0[k]).null) ++ (encCols (c0.drop (k + 1)) ++ (encList k0 ++ (numB u0.length ++ encLists u0))))))
            rw [← a5, hx0] at a6
            cases a6
          have HFIN : Hid (Bel w (((wr.setCell ⟨w.heap.size, 0, none⟩ (.slice none 0 0)).setCell ⟨w.heap.size, 1, none⟩ (.slice none 0 0)).setCell ⟨w.heap.size, 2, none⟩ (.slice none 0 0))) := ((HE.out.1.setCell (Nat.le_refl _) _).setCell (Nat.le_refl _) _).setCell (Nat.le_refl _) _
          clear hx0 HT HO HV HE HNM
          go_wp2_with fail
          refine HRT.out.mono ?_
          rintro e w' ⟨rfl, rfl⟩
          go_wp2
          exact .inr ⟨_, _, _, _, _, _, _, _, _, _, _, _, _, _, _, _, _, _, _, _, _, _, _, _, _, _, _, _, _, _, _, _, _, _, _, _, _, _, _, _, _, _, _, _, _, _, _, _, _, _, _, _, _, _, _, _, _, _, _, _, _, _, _, _, _, _, _, _, by first | rfl | trivial, by first | rfl | trivial, by first | rfl | trivial, ⟨by go_simp, by go_simp, by go_simp⟩, HFIN.out⟩
        | some qx =>
          obtain ⟨x, m⟩ := qx
          rw [hx0] at HRT
          unfold textV strV at HRT
          obtain ⟨hm1, hm2, -, hm4⟩ := rdText_back hx0
          have hmI : (m : Int) ≤ r'.length := by omega
          obtain ⟨Av, cv, hve, hn3, hx3, hrd3⟩ := id HV.out
          injection hve with hve1 hve2 hve3
          subst hve1 hve3
          obtain ⟨ad, rfl, -⟩ := hrd3.2 (by omega)
          have hbI : (r'.length : Int) ≤ cr := by omega
          have hbJ : (cr : Int) ≤ 9223372036854775807 := by unfold maxLen at hx3; omega
          have hdl : (r'.drop m).length = r'.length - m := List.length_drop
          have HTX : Hid (∀ c0 k0 u0, rightS c0 k0 u0 = true → encSch c0 k0 u0 = s → ∃ hk0 : k < c0.length, x = (c0[k]).name.data.toList ∧ r'.drop m = numB (c0[k]).t.toNat ++ (numB (c0[k]).z.toNat ++ (numB (bNat (c0[k]).null) ++ (encCols (c0.drop (k + 1)) ++ (encList k0 ++ (numB u0.length ++ encLists u0))))) ∧ n = c0.length ∧ L = c0.take k ∧ (1 ≤ (c0[k]).t ∧ (c0[k]).t ≤ 4 ∧ 0 ≤ (c0[k]).z ∧ (c0[k]).z ≤ 200)) := fun c0 k0 u0 h1 h2 => by
            obtain ⟨a1, a2, a3, a4⟩ := HT.out c0 k0 u0 h1 h2
            have hk0 : k < c0.length := by omega
            have hc := (right_small h1).1 c0[k] (List.getElem_mem hk0)
            rw [List.drop_eq_getElem_cons hk0] at a4
            have hl : (c0[k]).name.data.toList.length = (c0[k]).name.size := rfl
            have a5 : r' = textB (c0[k]).name.data.toList ++ (numB (c0[k]).t.toNat ++ (numB (c0[k]).z.toNat ++ (numB (bNat (c0[k]).null) ++ (encCols (c0.drop (k + 1)) ++ (encList k0 ++ (numB u0.length ++ encLists u0)))))) := by
              rw [a4]
              show encCol c0[k] ++ encCols _ ++ _ = _
              unfold encCol
              simp only [List.append_assoc]
            have a6 := rdText_enc (c0[k]).name.data.toList (by rw [hl]; omega) (numB (c0[k]).t.toNat ++ (numB (c0[k]).z.toNat ++ (numB (bNat (c0[k]).null) ++ (encCols (c0.drop (k + 1)) ++ (encList k0 ++ (numB u0.length ++ encLists u0))))))
            rw [← a5, hx0] at a6
            injection a6 with a6
            injection a6 with a6 a7
            refine ⟨hk0, a6, ?_, a1, a3, hc.1, hc.2.1, hc.2.2.1, hc.2.2.2.1⟩
            rw [a5, a7, List.drop_left]
          clear hx0 HT
          by_cases hmc : cr = m
          · obtain rfl : m = r'.length := by omega
            subst hmc
            have HV2 : Hid (BsI w.heap.size w (.slice (some ad) 0 0) (r'.drop r'.length)) := by rw [List.drop_length]; exact ⟨some ad, 0, rfl, Nat.le_refl _, Nat.zero_le _, by simp, fun h => by simp at h⟩
            clear hrd3
            have E2 := Lib.hid (HE.out.reader0 (.slice (some ad) 0 0))
            have O2 := Lib.hid (own_set4 HO.out (p := ⟨br, 0, none⟩) (by dsimp only; omega) (.slice (some ad) 0 0))
            have HN3 := Lib.hid (r4number_any (.slice (some ad) 0 0) (r'.drop r'.length) false (by rw [hdl]; omega) w.heap.size (wr.setCell ⟨br, 0, none⟩ (.slice (some ad) 0 0)) E2.out.1.size (HV2.out.up E2.out.1))
            have hdle : (r'.drop r'.length).length ≤ s.length := by rw [hdl]; omega
            obtain ⟨⟨y0, y1, y2⟩, -, ⟨m0, m1⟩, -⟩ := E2.out.cells
            clear HE HV HO
            go_wp2_with fail
            refine HRT.out.mono ?_
            rintro e w' ⟨rfl, rfl⟩
            go_wp2_with fail
            refine HN3.out.mono ?_
            rintro e w3 ⟨v3, r3, b3, n3, rfl, hv3, hr3, hn3', hb3, htr3⟩
            obtain ⟨A3, cc3, hv3e, -⟩ := id hv3
            subst hv3e
            clear y0 y1 y2 m0 m1 s0 s1 s2 f0 f1 f2 t0 t1 g0 g1 q0 q1 q2 o0 o1 o2
            have E3 := E2.out.bel hb3
            have E3x := Lib.hid (E3.reader (.slice A3 r3.length cc3) b3)
            have O3x := Lib.hid (own_set4 (own_set4 (ownsRow_bel O2.out hb3) (p := ⟨br, 0, none⟩) (by dsimp only; omega) (.slice A3 r3.length cc3)) (p := ⟨br, 1, none⟩) (by dsimp only; omega) (.bool b3))
            have HV3 := Lib.hid (hv3.down E3.1)
            have HT3 := Lib.hid htr3
            obtain ⟨-, -, ⟨m0, m1⟩, l0, l1⟩ := E3.cells
            have HN4 := Lib.hid (r4number_any (.slice A3 r3.length cc3) r3 b3 (by omega) w.heap.size (((w3.setCell ⟨br, 0, none⟩ (.slice A3 r3.length cc3)).setCell ⟨br, 1, none⟩ (.bool b3))) E3x.out.1.size (HV3.out.up E3x.out.1))
            obtain ⟨-, -, ⟨n0, n1⟩, -⟩ := E3x.out.cells
            clear E3 hb3 hv3 htr3
            go_wp2_with fail
            refine HN4.out.mono ?_
            rintro e w4 ⟨v4, r4, b4, n4, rfl, hv4, hr4, hn4', hb4, htr4⟩
            obtain ⟨A4, cc4, hv4e, -⟩ := id hv4
            subst hv4e
            clear m0 m1 l0 l1 n0 n1
            have E4 := E3x.out.bel hb4
            have E4x := Lib.hid (E4.reader (.slice A4 r4.length cc4) b4)
            have O4x := Lib.hid (own_set4 (own_set4 (ownsRow_bel O3x.out hb4) (p := ⟨br, 0, none⟩) (by dsimp only; omega) (.slice A4 r4.length cc4)) (p := ⟨br, 1, none⟩) (by dsimp only; omega) (.bool b4))
            have HV4 := Lib.hid (hv4.down E4.1)
            have HT4 := Lib.hid htr4
            obtain ⟨-, -, ⟨m0, m1⟩, l0, l1⟩ := E4.cells
            have HN5 := Lib.hid (r4number_any (.slice A4 r4.length cc4) r4 b4 (by omega) w.heap.size (((w4.setCell ⟨br, 0, none⟩ (.slice A4 r4.length cc4)).setCell ⟨br, 1, none⟩ (.bool b4))) E4x.out.1.size (HV4.out.up E4x.out.1))
            obtain ⟨-, -, ⟨n0, n1⟩, -⟩ := E4x.out.cells
            clear E4 hb4 hv4 htr4
            go_wp2_with fail
            refine HN5.out.mono ?_
            rintro e w5 ⟨v5, r5, b5, n5, rfl, hv5, hr5, hn5', hb5, htr5⟩
            obtain ⟨A5, cc5, hv5e, -⟩ := id hv5
            subst hv5e
            clear m0 m1 l0 l1 n0 n1
            have E5 := E4x.out.bel hb5
            have E5x := Lib.hid (E5.reader (.slice A5 r5.length cc5) b5)
            have O5x := Lib.hid (own_set4 (own_set4 (ownsRow_bel O4x.out hb5) (p := ⟨br, 0, none⟩) (by dsimp only; omega) (.slice A5 r5.length cc5)) (p := ⟨br, 1, none⟩) (by dsimp only; omega) (.bool b5))
            have HV5 := Lib.hid (hv5.down E5.1)
            have HT5 := Lib.hid htr5
            obtain ⟨-, -, ⟨m0, m1⟩, l0, l1⟩ := E5.cells
            obtain ⟨B, hB⟩ : ∃ B, B = decide (n5 = 1) := ⟨_, rfl⟩
            have hb1 : ((n5 : Int) == 1) = B := by
              rw [hB]
              by_cases h : n5 = 1
              · subst h; rfl
              · rw [decide_eq_false h, beq_eq_false_iff_ne]; omega
            have hb2 : (n5 == 1) = B := by rw [hB]; rfl
            have hb3' : decide ((n5 : Int) = 1) = B := by rw [hB]; exact decide_eq_decide.2 (by omega)
            have HTK : Hid (∀ c0 k0 u0, rightS c0 k0 u0 = true → encSch c0 k0 u0 = s → n = c0.length ∧ b5 = false ∧ L ++ [⟨⟨x.toArray⟩, (n3 : Int), (n4 : Int), B⟩] = c0.take (k + 1) ∧ r5 = encCols (c0.drop (k + 1)) ++ (encList k0 ++ (numB u0.length ++ encLists u0))) := fun c0 k0 u0 h1 h2 => by
              obtain ⟨hk0, a1, a2, a3, a4, a5, a6, a7, a8⟩ := HTX.out c0 k0 u0 h1 h2
              obtain ⟨p1, p2, p3⟩ := HT3.out _ _ (by first | rfl | trivial) (by omega) a2
              obtain ⟨p4, p5, p6⟩ := HT4.out _ _ p3 (by omega) p2
              obtain ⟨p7, p8, p9⟩ := HT5.out _ _ p6 (by unfold bNat; split <;> omega) p5
              refine ⟨a3, p9, ?_, p8⟩
              rw [List.take_add_one, List.getElem?_eq_getElem hk0, a4]
              show c0.take k ++ [_] = c0.take k ++ [c0[k]]
              have hcc : (⟨⟨x.toArray⟩, (n3 : Int), (n4 : Int), B⟩ : Col) = c0[k] := by
                rw [hB, p7, a1, p1, p4, Int.toNat_of_nonneg (by omega), Int.toNat_of_nonneg a7]
                generalize c0[k] = cc
                obtain ⟨nm, tt, zz, nl⟩ := cc
                cases nl <;> simp [bNat]
              rw [hcc]
            clear hB
            have hal : Bel ((w5.setCell ⟨br, 0, none⟩ (.slice A5 r5.length cc5)).setCell ⟨br, 1, none⟩ (.bool b5)) (((w5.setCell ⟨br, 0, none⟩ (.slice A5 r5.length cc5)).setCell ⟨br, 1, none⟩ (.bool b5)).alloc (.cells #[.string ⟨x.toArray⟩, .int .i64 (n3 : Int), .int .i64 (n4 : Int), .bool B] 44)) := (Bel.refl _).alloc _
            have E6 := Lib.hid (E5x.out.bel hal)
            have O6 := Lib.hid (ownsRow_bel O5x.out hal)
            have HX : Hid (Reads (((w5.setCell ⟨br, 0, none⟩ (.slice A5 r5.length cc5)).setCell ⟨br, 1, none⟩ (.bool b5)).alloc (.cells #[.string ⟨x.toArray⟩, .int .i64 (n3 : Int), .int .i64 (n4 : Int), .bool B] 44)) (w5.heap.size + 1) 4 (some ⟨w5.heap.size, 0, none⟩) 1 [.string ⟨x.toArray⟩, .int .i64 (n3 : Int), .int .i64 (n4 : Int), .bool B]) := by
              have := reads4 ((w5.setCell ⟨br, 0, none⟩ (.slice A5 r5.length cc5)).setCell ⟨br, 1, none⟩ (.bool b5)) 44 (.string ⟨x.toArray⟩) (.int .i64 (n3 : Int)) (.int .i64 (n4 : Int)) (.bool B)
              show Reads _ _ _ _ _ _
              rw [show ((w5.setCell ⟨br, 0, none⟩ (.slice A5 r5.length cc5)).setCell ⟨br, 1, none⟩ (.bool b5)).heap.size = w5.heap.size by simp] at this
              exact this
            have hon : ∀ u ∈ ([.string ⟨x.toArray⟩, .int .i64 (n3 : Int), .int .i64 (n4 : Int), .bool B] : List Value), u.oneCell' = true := fun u hu => by
              simp at hu
              rcases hu with rfl | rfl | rfl | rfl <;> rfl
            have h63 : k + 1 ≤ maxLen := by unfold maxLen; omega
            have hby : (k + 1) * 40 ≤ 140737488355328 := by omega
            have HBA : Hid (br + 1 ≤ (((w5.setCell ⟨br, 0, none⟩ (.slice A5 r5.length cc5)).setCell ⟨br, 1, none⟩ (.bool b5)).alloc (.cells #[.string ⟨x.toArray⟩, .int .i64 (n3 : Int), .int .i64 (n4 : Int), .bool B] 44)).heap.size) := E6.out.lt
            have HNM2 : Hid (∀ cc ∈ L ++ [⟨⟨x.toArray⟩, (n3 : Int), (n4 : Int), B⟩], cc.name.size ≤ 1000000) := fun cc hcc => by
              rcases List.mem_append.1 hcc with h | h
              · exact HNM.out cc h
              · rw [List.mem_singleton] at h
                subst h
                show x.toArray.size ≤ 1000000
                rw [List.size_toArray]
                omega
            have HVA : Hid (crows (L ++ [⟨⟨x.toArray⟩, (n3 : Int), (n4 : Int), B⟩]) = crows L ++ [.string ⟨x.toArray⟩, .int .i64 (n3 : Int), .int .i64 (n4 : Int), .bool B]) := crows_append _ _
            obtain ⟨⟨y0, y1, y2⟩, -⟩ := E5x.out.cells
            clear hal E5 hb5 hv5 htr5
            go_wp2_with (at_builtin; refine wpList_append_any _ rfl (.tmp 69) (.tmp 76) _ rfl (br + 1) 44 i0 _ 4 40 Tryz.underlying22 hi0 hz0 hz1 hz2 rfl hp4 (.slice A k c) k (crows L) (by rfl) O6.out _ (some ⟨w5.heap.size, 0, none⟩) 1 1 [.string ⟨x.toArray⟩, .int .i64 (n3 : Int), .int .i64 (n4 : Int), .bool B] (by rfl) HX.out hon h63 hby HBA.out ?_; intro v9 w9 hown9 hg9 hat9; obtain ⟨A9, c9, rfl⟩ := row_any hown9; have E9 := Lib.hid (E6.out.grown hg9 (fun j e => own_ge2 O6.out j e)); have O9 := Lib.hid hown9; rw [← HVA.out] at O9; obtain ⟨⟨d0, d1, d2⟩, ⟨h0, h1, h2⟩, -⟩ := E9.out.cells; clear hown9 hg9 hat9)
            have E10 := Lib.hid (E9.out.set0 (.slice A9 (k + 1) c9))
            have O10 := Lib.hid (own_set4 O9.out (p := ⟨w.heap.size + 1, 0, none⟩) (by dsimp only; omega) (.slice A9 (k + 1) c9))
            go_roundw
            case rel => exact ⟨k + 1, L ++ [(⟨⟨x.toArray⟩, (n3 : Int), (n4 : Int), B⟩ : Col)], _, r5, b5, A9, c9, by omega, by omega, by go_num, by rw [List.length_append, hL]; rfl, by omega, HNM2.out, E10.out, HV5.out, O10.out, HTK.out⟩
            case measure => simp [intOf]; omega
          · have hcut := hrd3.cut (k := m) hm1 hn3
            rw [Nat.mul_one, ← List.map_drop, if_neg hmc, ← hdl] at hcut
            have hI4 : ((r'.length : Int) - m).toNat = r'.length - m := by omega
            have hI5 : ((cr : Int) - m).toNat = cr - m := by omega
            have HV2 : Hid (BsI w.heap.size w (.slice (some (ad.add m)) (r'.length - m) (cr - m)) (r'.drop m)) := by
              show BsI _ _ _ _
              rw [← hdl]
              exact ⟨_, _, rfl, by omega, by omega, hcut⟩
            clear hrd3 hcut
            have E2 := Lib.hid (HE.out.reader0 (.slice (some (ad.add m)) (r'.length - m) (cr - m)))
            have O2 := Lib.hid (own_set4 HO.out (p := ⟨br, 0, none⟩) (by dsimp only; omega) (.slice (some (ad.add m)) (r'.length - m) (cr - m)))
            have HN3 := Lib.hid (r4number_any (.slice (some (ad.add m)) (r'.length - m) (cr - m)) (r'.drop m) false (by rw [hdl]; omega) w.heap.size (wr.setCell ⟨br, 0, none⟩ (.slice (some (ad.add m)) (r'.length - m) (cr - m))) E2.out.1.size (HV2.out.up E2.out.1))
            have hdle : (r'.drop m).length ≤ s.length := by rw [hdl]; omega
            obtain ⟨⟨y0, y1, y2⟩, -, ⟨m0, m1⟩, -⟩ := E2.out.cells
            clear HE HV HO
            go_wp2_with fail
            refine HRT.out.mono ?_
            rintro e w' ⟨rfl, rfl⟩
            go_wp2_with fail
            refine HN3.out.mono ?_
            rintro e w3 ⟨v3, r3, b3, n3, rfl, hv3, hr3, hn3', hb3, htr3⟩
            obtain ⟨A3, cc3, hv3e, -⟩ := id hv3
            subst hv3e
            clear y0 y1 y2 m0 m1 s0 s1 s2 f0 f1 f2 t0 t1 g0 g1 q0 q1 q2 o0 o1 o2
            have E3 := E2.out.bel hb3
            have E3x := Lib.hid (E3.reader (.slice A3 r3.length cc3) b3)
            have O3x := Lib.hid (own_set4 (own_set4 (ownsRow_bel O2.out hb3) (p := ⟨br, 0, none⟩) (by dsimp only; omega) (.slice A3 r3.length cc3)) (p := ⟨br, 1, none⟩) (by dsimp only; omega) (.bool b3))
            have HV3 := Lib.hid (hv3.down E3.1)
            have HT3 := Lib.hid htr3
            obtain ⟨-, -, ⟨m0, m1⟩, l0, l1⟩ := E3.cells
            have HN4 := Lib.hid (r4number_any (.slice A3 r3.length cc3) r3 b3 (by omega) w.heap.size (((w3.setCell ⟨br, 0, none⟩ (.slice A3 r3.length cc3)).setCell ⟨br, 1, none⟩ (.bool b3))) E3x.out.1.size (HV3.out.up E3x.out.1))
            obtain ⟨-, -, ⟨n0, n1⟩, -⟩ := E3x.out.cells
            clear E3 hb3 hv3 htr3
            go_wp2_with fail
            refine HN4.out.mono ?_
            rintro e w4 ⟨v4, r4, b4, n4, rfl, hv4, hr4, hn4', hb4, htr4⟩
            obtain ⟨A4, cc4, hv4e, -⟩ := id hv4
            subst hv4e
            clear m0 m1 l0 l1 n0 n1
            have E4 := E3x.out.bel hb4
            have E4x := Lib.hid (E4.reader (.slice A4 r4.length cc4) b4)
            have O4x := Lib.hid (own_set4 (own_set4 (ownsRow_bel O3x.out hb4) (p := ⟨br, 0, none⟩) (by dsimp only; omega) (.slice A4 r4.length cc4)) (p := ⟨br, 1, none⟩) (by dsimp only; omega) (.bool b4))
            have HV4 := Lib.hid (hv4.down E4.1)
            have HT4 := Lib.hid htr4
            obtain ⟨-, -, ⟨m0, m1⟩, l0, l1⟩ := E4.cells
            have HN5 := Lib.hid (r4number_any (.slice A4 r4.length cc4) r4 b4 (by omega) w.heap.size (((w4.setCell ⟨br, 0, none⟩ (.slice A4 r4.length cc4)).setCell ⟨br, 1, none⟩ (.bool b4))) E4x.out.1.size (HV4.out.up E4x.out.1))
            obtain ⟨-, -, ⟨n0, n1⟩, -⟩ := E4x.out.cells
            clear E4 hb4 hv4 htr4
            go_wp2_with fail
            refine HN5.out.mono ?_
            rintro e w5 ⟨v5, r5, b5, n5, rfl, hv5, hr5, hn5', hb5, htr5⟩
            obtain ⟨A5, cc5, hv5e, -⟩ := id hv5
            subst hv5e
            clear m0 m1 l0 l1 n0 n1
            have E5 := E4x.out.bel hb5
            have E5x := Lib.hid (E5.reader (.slice A5 r5.length cc5) b5)
            have O5x := Lib.hid (own_set4 (own_set4 (ownsRow_bel O4x.out hb5) (p := ⟨br, 0, none⟩) (by dsimp only; omega) (.slice A5 r5.length cc5)) (p := ⟨br, 1, none⟩) (by dsimp only; omega) (.bool b5))
            have HV5 := Lib.hid (hv5.down E5.1)
            have HT5 := Lib.hid htr5
            obtain ⟨-, -, ⟨m0, m1⟩, l0, l1⟩ := E5.cells
            obtain ⟨B, hB⟩ : ∃ B, B = decide (n5 = 1) := ⟨_, rfl⟩
            have hb1 : ((n5 : Int) == 1) = B := by
              rw [hB]
              by_cases h : n5 = 1
              · subst h; rfl
              · rw [decide_eq_false h, beq_eq_false_iff_ne]; omega
            have hb2 : (n5 == 1) = B := by rw [hB]; rfl
            have hb3' : decide ((n5 : Int) = 1) = B := by rw [hB]; exact decide_eq_decide.2 (by omega)
            have HTK : Hid (∀ c0 k0 u0, rightS c0 k0 u0 = true → encSch c0 k0 u0 = s → n = c0.length ∧ b5 = false ∧ L ++ [⟨⟨x.toArray⟩, (n3 : Int), (n4 : Int), B⟩] = c0.take (k + 1) ∧ r5 = encCols (c0.drop (k + 1)) ++ (encList k0 ++ (numB u0.length ++ encLists u0))) := fun c0 k0 u0 h1 h2 => by
              obtain ⟨hk0, a1, a2, a3, a4, a5, a6, a7, a8⟩ := HTX.out c0 k0 u0 h1 h2
              obtain ⟨p1, p2, p3⟩ := HT3.out _ _ (by first | rfl | trivial) (by omega) a2
              obtain ⟨p4, p5, p6⟩ := HT4.out _ _ p3 (by omega) p2
              obtain ⟨p7, p8, p9⟩ := HT5.out _ _ p6 (by unfold bNat; split <;> omega) p5
              refine ⟨a3, p9, ?_, p8⟩
              rw [List.take_add_one, List.getElem?_eq_getElem hk0, a4]
              show c0.take k ++ [_] = c0.take k ++ [c0[k]]
              have hcc : (⟨⟨x.toArray⟩, (n3 : Int), (n4 : Int), B⟩ : Col) = c0[k] := by
                rw [hB, p7, a1, p1, p4, Int.toNat_of_nonneg (by omega), Int.toNat_of_nonneg a7]
                generalize c0[k] = cc
                obtain ⟨nm, tt, zz, nl⟩ := cc
                cases nl <;> simp [bNat]
              rw [hcc]
            clear hB
            have hal : Bel ((w5.setCell ⟨br, 0, none⟩ (.slice A5 r5.length cc5)).setCell ⟨br, 1, none⟩ (.bool b5)) (((w5.setCell ⟨br, 0, none⟩ (.slice A5 r5.length cc5)).setCell ⟨br, 1, none⟩ (.bool b5)).alloc (.cells #[.string ⟨x.toArray⟩, .int .i64 (n3 : Int), .int .i64 (n4 : Int), .bool B] 44)) := (Bel.refl _).alloc _
            have E6 := Lib.hid (E5x.out.bel hal)
            have O6 := Lib.hid (ownsRow_bel O5x.out hal)
            have HX : Hid (Reads (((w5.setCell ⟨br, 0, none⟩ (.slice A5 r5.length cc5)).setCell ⟨br, 1, none⟩ (.bool b5)).alloc (.cells #[.string ⟨x.toArray⟩, .int .i64 (n3 : Int), .int .i64 (n4 : Int), .bool B] 44)) (w5.heap.size + 1) 4 (some ⟨w5.heap.size, 0, none⟩) 1 [.string ⟨x.toArray⟩, .int .i64 (n3 : Int), .int .i64 (n4 : Int), .bool B]) := by
              have := reads4 ((w5.setCell ⟨br, 0, none⟩ (.slice A5 r5.length cc5)).setCell ⟨br, 1, none⟩ (.bool b5)) 44 (.string ⟨x.toArray⟩) (.int .i64 (n3 : Int)) (.int .i64 (n4 : Int)) (.bool B)
              show Reads _ _ _ _ _ _
              rw [show ((w5.setCell ⟨br, 0, none⟩ (.slice A5 r5.length cc5)).setCell ⟨br, 1, none⟩ (.bool b5)).heap.size = w5.heap.size by simp] at this
              exact this
            have hon : ∀ u ∈ ([.string ⟨x.toArray⟩, .int .i64 (n3 : Int), .int .i64 (n4 : Int), .bool B] : List Value), u.oneCell' = true := fun u hu => by
              simp at hu
              rcases hu with rfl | rfl | rfl | rfl <;> rfl
            have h63 : k + 1 ≤ maxLen := by unfold maxLen; omega
            have hby : (k + 1) * 40 ≤ 140737488355328 := by omega
            have HBA : Hid (br + 1 ≤ (((w5.setCell ⟨br, 0, none⟩ (.slice A5 r5.length cc5)).setCell ⟨br, 1, none⟩ (.bool b5)).alloc (.cells #[.string ⟨x.toArray⟩, .int .i64 (n3 : Int), .int .i64 (n4 : Int), .bool B] 44)).heap.size) := E6.out.lt
            have HNM2 : Hid (∀ cc ∈ L ++ [⟨⟨x.toArray⟩, (n3 : Int), (n4 : Int), B⟩], cc.name.size ≤ 1000000) := fun cc hcc => by
              rcases List.mem_append.1 hcc with h | h
              · exact HNM.out cc h
              · rw [List.mem_singleton] at h
                subst h
                show x.toArray.size ≤ 1000000
                rw [List.size_toArray]
                omega
            have HVA : Hid (crows (L ++ [⟨⟨x.toArray⟩, (n3 : Int), (n4 : Int), B⟩]) = crows L ++ [.string ⟨x.toArray⟩, .int .i64 (n3 : Int), .int .i64 (n4 : Int), .bool B]) := crows_append _ _
            obtain ⟨⟨y0, y1, y2⟩, -⟩ := E5x.out.cells
            clear hal E5 hb5 hv5 htr5
            go_wp2_with (at_builtin; refine wpList_append_any _ rfl (.tmp 69) (.tmp 76) _ rfl (br + 1) 44 i0 _ 4 40 Tryz.underlying22 hi0 hz0 hz1 hz2 rfl hp4 (.slice A k c) k (crows L) (by rfl) O6.out _ (some ⟨w5.heap.size, 0, none⟩) 1 1 [.string ⟨x.toArray⟩, .int .i64 (n3 : Int), .int .i64 (n4 : Int), .bool B] (by rfl) HX.out hon h63 hby HBA.out ?_; intro v9 w9 hown9 hg9 hat9; obtain ⟨A9, c9, rfl⟩ := row_any hown9; have E9 := Lib.hid (E6.out.grown hg9 (fun j e => own_ge2 O6.out j e)); have O9 := Lib.hid hown9; rw [← HVA.out] at O9; obtain ⟨⟨d0, d1, d2⟩, ⟨h0, h1, h2⟩, -⟩ := E9.out.cells; clear hown9 hg9 hat9)
            have E10 := Lib.hid (E9.out.set0 (.slice A9 (k + 1) c9))
            have O10 := Lib.hid (own_set4 O9.out (p := ⟨w.heap.size + 1, 0, none⟩) (by dsimp only; omega) (.slice A9 (k + 1) c9))
            go_roundw
            case rel => exact ⟨k + 1, L ++ [(⟨⟨x.toArray⟩, (n3 : Int), (n4 : Int), B⟩ : Col)], _, r5, b5, A9, c9, by omega, by omega, by go_num, by rw [List.length_append, hL]; rfl, by omega, HNM2.out, E10.out, HV5.out, O10.out, HTK.out⟩
            case measure => simp [intOf]; omega
      · have HEND : Hid (∀ c0 k0 u0, rightS c0 k0 u0 = true → encSch c0 k0 u0 = s → L = c0 ∧ bad = false ∧ r' = (encList k0 ++ (numB u0.length ++ encLists u0))) := fun c0 k0 u0 h1 h2 => by
          obtain ⟨a1, a2, a3, a4⟩ := HT.out c0 k0 u0 h1 h2
          have := right_small h1
          have hk : k = c0.length := by
            have : ¬ (k < n ∧ k < 9) := fun h => hgo ⟨h.1, h.2, a2⟩
            omega
          rw [hk, List.take_length] at a3
          rw [hk, List.drop_length] at a4
          exact ⟨a3, a2, a4⟩
        clear HT
        by_cases hkn2 : k < n
        · by_cases hk92 : k < 9
          · obtain rfl : bad = true := by cases bad; exact absurd ⟨hkn2, hk92, rfl⟩ hgo; rfl
            have hkI : (k : Int) < n := by omega
            have hkJ : (k : Int) < 9 := by omega
            clear hgo
            go_wp2
            exact .inl ⟨_, _, _, _, _, _, _, _, _, _, _, _, _, _, _, _, _, _, _, _, _, _, _, _, _, _, _, _, _, _, _, _, _, _, _, _, _, _, _, _, _, _, _, _, _, _, _, _, _, _, _, _, _, _, _, _, _, _, _, _, _, _, _, _, _, _, _, _, _, k, L, _, r', true, A, c, by first | rfl | trivial, by first | rfl | trivial, hL, hk9, hr', HNM, HE, HV, HO, HEND⟩
          · obtain rfl : k = 9 := by omega
            have hkI : (9 : Int) < n := by omega
            clear hgo hk92
            go_wp2
            exact .inl ⟨_, _, _, _, _, _, _, _, _, _, _, _, _, _, _, _, _, _, _, _, _, _, _, _, _, _, _, _, _, _, _, _, _, _, _, _, _, _, _, _, _, _, _, _, _, _, _, _, _, _, _, _, _, _, _, _, _, _, _, _, _, _, _, _, _, _, _, _, _, 9, L, _, r', bad, A, c, by first | rfl | trivial, by first | rfl | trivial, hL, hk9, hr', HNM, HE, HV, HO, HEND⟩
        · obtain rfl : k = n := by omega
          clear hgo hkn2
          go_wp2
          exact .inl ⟨_, _, _, _, _, _, _, _, _, _, _, _, _, _, _, _, _, _, _, _, _, _, _, _, _, _, _, _, _, _, _, _, _, _, _, _, _, _, _, _, _, _, _, _, _, _, _, _, _, _, _, _, _, _, _, _, _, _, _, _, _, _, _, _, _, _, _, _, _, k, L, _, r', bad, A, c, by first | rfl | trivial, by first | rfl | trivial, hL, hk9, hr', HNM, HE, HV, HO, HEND⟩
  · intros V z3 z7 z8 z9 z10 z11 z12 z13 z18 z19 z20 z21 z22 z23 z24 z25 z26 z27 z28 z29 z30 z31 z32 z33 z34 z35 z36 z37 z38 z39 z40 z41 z42 z43 z44 z45 z46 z47 z48 z49 z50 z51 z52 z53 z54 z55 z56 z57 z58 z59 z60 z61 z62 z63 z64 z65 z66 z67 z68 z69 z70 z71 z72 z73 z74 z75 z76 z77 z78 k L vr r' bad A c hh
    obtain ⟨⟨hL, hk9, hr'⟩, HNM, HE, HV, HO, HT⟩ := hh
    clear E1 HV1 HT1
    obtain ⟨Ar, cr, hvre, -⟩ := id HV.out
    subst hvre
    refine zinBlock ?_
    dsimp only [Exit.then]
    go_at_K
    obtain ⟨⟨s0, s1, s2⟩, ⟨f0, f1, f2⟩, ⟨t0, t1⟩, g0, g1⟩ := HE.out.cells
    have HPL := Lib.hid (r4places_any (.slice Ar r'.length cr) r' bad (by omega) w.heap.size V HE.out.1.size (HV.out.up HE.out.1))
    have hbrV : br + 1 ≤ V.heap.size := HE.out.lt
    go_wp2_with fail
    refine HPL.out.mono ?_
    rintro e w3 ⟨v3, r3, b3, key, Ak, ck, rfl, hv3, hr3, hk9', hok, hb3, htr3⟩
    obtain ⟨A3, cc3, hv3e, -⟩ := id hv3
    subst hv3e
    have E3 := HE.out.bel hb3
    have E3x := Lib.hid ((E3.reader (.slice A3 r3.length cc3) b3).set1 (.slice Ak key.length ck))
    obtain ⟨bk, hbk, hok⟩ : ∃ bk, br + 1 ≤ bk ∧ w3.ownsRow bk 3 1 (.slice Ak key.length ck) key.length (key.map (fun x => Value.int .i64 x)) := ⟨_, hbrV, hok⟩
    have OC3 := Lib.hid (own_set4 (own_set4 (own_set4 (ownsRow_bel HO.out hb3) (p := ⟨br, 0, none⟩) (by dsimp only; omega) (.slice A3 r3.length cc3)) (p := ⟨br, 1, none⟩) (by dsimp only; omega) (.bool b3)) (p := ⟨w.heap.size + 1, 1, none⟩) (by dsimp only; omega) (.slice Ak key.length ck))
    have OK3 := Lib.hid (own_set4 (own_set4 (own_set4 hok (p := ⟨br, 0, none⟩) (by dsimp only; omega) (.slice A3 r3.length cc3)) (p := ⟨br, 1, none⟩) (by dsimp only; omega) (.bool b3)) (p := ⟨w.heap.size + 1, 1, none⟩) (by dsimp only; omega) (.slice Ak key.length ck))
    have HV3 := Lib.hid (hv3.down E3.1)
    have HT3 : Hid (∀ c0 k0 u0, rightS c0 k0 u0 = true → encSch c0 k0 u0 = s → L = c0 ∧ key = k0 ∧ b3 = false ∧ r3 = (numB u0.length ++ encLists u0)) := fun c0 k0 u0 h1 h2 => by
      obtain ⟨a1, a2, a3⟩ := HT.out c0 k0 u0 h1 h2
      have hs0 := (right_small h1).2.2.2.1
      obtain ⟨p1, p2, p3⟩ := htr3 k0 (numB u0.length ++ encLists u0) a2 hs0.1 hs0.2 a3
      exact ⟨a1, p1, p3, p2⟩
    obtain ⟨⟨m0, m1, m2⟩, ⟨l0, l1, l2⟩, ⟨n0, n1⟩, d0, d1⟩ := E3.cells
    have HN4 := Lib.hid (r4number_any (.slice A3 r3.length cc3) r3 b3 (by omega) w.heap.size (((w3.setCell ⟨br, 0, none⟩ (.slice A3 r3.length cc3)).setCell ⟨br, 1, none⟩ (.bool b3)).setCell ⟨w.heap.size + 1, 1, none⟩ (.slice Ak key.length ck)) E3x.out.1.size (HV3.out.up E3x.out.1))
    obtain ⟨-, -, ⟨e0, e1⟩, -⟩ := E3x.out.cells
    clear s0 s1 s2 f0 f1 f2 t0 t1 g0 g1 HPL HE HV HO HT hv3 hok hb3 htr3 E3 hbrV
    go_wp2_with fail
    refine HN4.out.mono ?_
    rintro e w4 ⟨v4, r4, b4, u, rfl, hv4, hr4, hu4, hb4, htr4⟩
    obtain ⟨A4, cc4, hv4e, -⟩ := id hv4
    subst hv4e
    have E4 := E3x.out.bel hb4
    have E4x := Lib.hid (E4.reader (.slice A4 r4.length cc4) b4)
    have OC4 := Lib.hid (own_set4 (own_set4 (ownsRow_bel OC3.out hb4) (p := ⟨br, 0, none⟩) (by dsimp only; omega) (.slice A4 r4.length cc4)) (p := ⟨br, 1, none⟩) (by dsimp only; omega) (.bool b4))
    have OK4 := Lib.hid (own_set4 (own_set4 (ownsRow_bel OK3.out hb4) (p := ⟨br, 0, none⟩) (by dsimp only; omega) (.slice A4 r4.length cc4)) (p := ⟨br, 1, none⟩) (by dsimp only; omega) (.bool b4))
    have HV4 := Lib.hid (hv4.down E4.1)
    have HT4 : Hid (∀ c0 k0 u0, rightS c0 k0 u0 = true → encSch c0 k0 u0 = s → L = c0 ∧ key = k0 ∧ u = u0.length ∧ u ≤ 3 ∧ b4 = false ∧ r4 = encLists u0) := fun c0 k0 u0 h1 h2 => by
      obtain ⟨a1, a2, a3, a4⟩ := HT3.out c0 k0 u0 h1 h2
      have hs0 := (right_small h1).2.2.2.2.1
      obtain ⟨p1, p2, p3⟩ := htr4 u0.length (encLists u0) a3 (by omega) a4
      exact ⟨a1, a2, p1, by omega, p3, p2⟩
    obtain ⟨-, -, ⟨x0, x1⟩, y0, y1⟩ := E4.cells
    have huI : (u : Int) ≤ 1000 := by omega
    clear m0 m1 m2 l0 l1 l2 n0 n1 d0 d1 e0 e1 HN4 E3x OC3 OK3 HV3 HT3 hv4 hb4 htr4 E4
    go_wp2_with fail
    go_loopw [14] (fun i wr => ∃ (j : Nat) (LU : List (List Int)) (us : List Value) (vr : Value) (r' : List UInt8) (bad' : Bool) (A2 : Option Addr) (c2 : Nat), j ≤ u ∧ j ≤ 4 ∧ i = .int .i64 j ∧ r'.length ≤ s.length ∧ LU.length = j ∧ Hid (ESt w br (.slice A k c) (.slice Ak key.length ck) (.slice A2 j c2) vr bad' wr) ∧ Hid (BsI w.heap.size w vr r') ∧ Hid (wr.ownsRow (br + 1) 23 1 (.slice A2 j c2) j us ∧ RowsI (br + 1) wr us LU) ∧ Hid (wr.ownsRow (br + 1) 44 4 (.slice A k c) k (crows L)) ∧ Hid (wr.ownsRow bk 3 1 (.slice Ak key.length ck) key.length (key.map (fun x => Value.int .i64 x))) ∧ Hid (∀ c0 k0 u0, rightS c0 k0 u0 = true → encSch c0 k0 u0 = s → L = c0 ∧ key = k0 ∧ u = u0.length ∧ u ≤ 3 ∧ bad' = false ∧ LU = u0.take j ∧ r' = encLists (u0.drop j))) (fun i _ => 4 - (intOf i).toNat)
    case atStart => exact ⟨0, [], [], _, r4, b4, none, 0, Nat.zero_le _, Nat.zero_le _, rfl, by omega, rfl, E4x.out, HV4.out, ⟨World.ownsRow_nil _ _ _ _, rfl, fun j u l h => by simp at h⟩, OC4.out, OK4.out, fun c0 k0 u0 h1 h2 => by obtain ⟨a1, a2, a3, a4, a5, a6⟩ := HT4.out c0 k0 u0 h1 h2; exact ⟨a1, a2, a3, a4, a5, rfl, a6⟩⟩
    case round =>
      obtain ⟨j, LU, us, vr, r', bad', A2, c2, hju, hj4, rfl, hr', hLU, E, HV, OU, OC, OK, HT⟩ := hrel
      obtain ⟨Ar, cr, hvre, -⟩ := id HV.out
      subst hvre
      by_cases hgo : j < u ∧ j < 4
      · have hjI : (j : Int) < u := by omega
        have hjJ : (j : Int) < 4 := by omega
        obtain ⟨⟨s0, s1, s2⟩, ⟨f0, f1, f2⟩, ⟨t0, t1⟩, g0, g1⟩ := E.out.cells
        have HPJ := Lib.hid (r4places_any (.slice Ar r'.length cr) r' bad' (by omega) w.heap.size wr E.out.1.size (HV.out.up E.out.1))
        have hbrV : br + 1 ≤ wr.heap.size := E.out.lt
        go_wp2_with fail
        refine HPJ.out.mono ?_
        rintro e w7 ⟨v7, r7, b7, l, Al, cl, rfl, hv7, hr7, hl9, hol, hb7, htr7⟩
        obtain ⟨A7, cc7, hv7e, -⟩ := id hv7
        subst hv7e
        have E7 := E.out.bel hb7
        have E7x := E7.reader (.slice A7 r7.length cc7) b7
        have hs2 := fun {b T s n : Nat} {v : Value} {xs : List Value} (h : w7.ownsRow b T s v n xs) (hb : br + 1 ≤ b) => own_set4 (own_set4 h (p := ⟨br, 0, none⟩) (by dsimp only; omega) (.slice A7 r7.length cc7)) (p := ⟨br, 1, none⟩) (by dsimp only; omega) (.bool b7)
        have hal : Bel ((w7.setCell ⟨br, 0, none⟩ (.slice A7 r7.length cc7)).setCell ⟨br, 1, none⟩ (.bool b7)) (((w7.setCell ⟨br, 0, none⟩ (.slice A7 r7.length cc7)).setCell ⟨br, 1, none⟩ (.bool b7)).alloc (.cells #[.slice Al l.length cl] 23)) := (Bel.refl _).alloc _
        have E8 := Lib.hid (E7x.bel hal)
        have OU8 := Lib.hid (ownsRow_bel (hs2 (ownsRow_bel OU.out.1 hb7) (Nat.le_refl _)) hal)
        have RI8 := Lib.hid ((((OU.out.2.bel hb7).set (p := ⟨br, 0, none⟩) (by dsimp only; omega) (.slice A7 r7.length cc7)).set (p := ⟨br, 1, none⟩) (by dsimp only; omega) (.bool b7)).bel hal)
        have OC8 := Lib.hid (ownsRow_bel (hs2 (ownsRow_bel OC.out hb7) (Nat.le_refl _)) hal)
        have OK8 := Lib.hid (ownsRow_bel (hs2 (ownsRow_bel OK.out hb7) hbk) hal)
        have OL8 := Lib.hid (ownsRow_bel (hs2 hol hbrV) hal)
        have HX : Hid (Reads (((w7.setCell ⟨br, 0, none⟩ (.slice A7 r7.length cc7)).setCell ⟨br, 1, none⟩ (.bool b7)).alloc (.cells #[.slice Al l.length cl] 23)) (((w7.setCell ⟨br, 0, none⟩ (.slice A7 r7.length cc7)).setCell ⟨br, 1, none⟩ (.bool b7)).alloc (.cells #[.slice Al l.length cl] 23)).heap.size 1 (some ⟨w7.heap.size, 0, none⟩) 1 [.slice Al l.length cl]) := by
          have h := zreads_new ((w7.setCell ⟨br, 0, none⟩ (.slice A7 r7.length cc7)).setCell ⟨br, 1, none⟩ (.bool b7)) (.slice Al l.length cl) 23
          rw [show ((w7.setCell ⟨br, 0, none⟩ (.slice A7 r7.length cc7)).setCell ⟨br, 1, none⟩ (.bool b7)).heap.size = w7.heap.size by simp] at h
          exact h
        have hone : ∀ u ∈ [(.slice Al l.length cl : Value)], u.oneCell' = true := by simp [Value.oneCell']
        have h63 : j + 1 ≤ maxLen := by unfold maxLen; omega
        have hby : (j + 1) * 24 ≤ 140737488355328 := by omega
        have HBA : Hid (br + 1 ≤ (((w7.setCell ⟨br, 0, none⟩ (.slice A7 r7.length cc7)).setCell ⟨br, 1, none⟩ (.bool b7)).alloc (.cells #[.slice Al l.length cl] 23)).heap.size) := E8.out.lt
        have HV7 := Lib.hid (hv7.down E7.1)
        have HBV := Lib.hid hbrV
        have HTJ : Hid (∀ c0 k0 u0, rightS c0 k0 u0 = true → encSch c0 k0 u0 = s → L = c0 ∧ key = k0 ∧ u = u0.length ∧ u ≤ 3 ∧ b7 = false ∧ LU ++ [l] = u0.take (j + 1) ∧ r7 = encLists (u0.drop (j + 1))) := fun c0 k0 u0 h1 h2 => by
          obtain ⟨a1, a2, a3, a4, a5, a6, a7⟩ := HT.out c0 k0 u0 h1 h2
          have hj0 : j < u0.length := by omega
          have hs0 := (right_small h1).2.2.2.2.2 u0[j] (List.getElem_mem hj0)
          rw [List.drop_eq_getElem_cons hj0] at a7
          obtain ⟨p1, p2, p3⟩ := htr7 u0[j] (encLists (u0.drop (j + 1))) a5 hs0.1 hs0.2 a7
          exact ⟨a1, a2, a3, a4, p3, by rw [List.take_add_one, List.getElem?_eq_getElem hj0, a6, p1]; rfl, p2⟩
        obtain ⟨⟨m0, m1, m2⟩, ⟨l0, l1, l2⟩, ⟨n0, n1⟩, d0, d1⟩ := E7.cells
        have hgj := hgo
        clear s0 s1 s2 f0 f1 f2 t0 t1 g0 g1 HPJ hv7 hol htr7 E7x hal E7 hb7 hbrV HT HV
        go_wp2_with (at_builtin; refine wpList_append_any _ rfl (.tmp 105) (.tmp 107) _ rfl (br + 1) 23 j0 _ 1 24 Tryz.underlying24 hj0 hy0 hy1 hy2 rfl hp1 (.slice A2 j c2) j us (by rfl) OU8.out _ (some ⟨w7.heap.size, 0, none⟩) 1 1 _ (by rfl) HX.out hone h63 hby HBA.out ?_; intro v9 w9 hown9 hg9 hat9; obtain ⟨A9, c9, rfl⟩ := row_any hown9; have E9 := Lib.hid (E8.out.grown hg9 (fun j e => own_ge2 OU8.out j e)); have RI9 := Lib.hid ((RI8.out.keep OU8.out hg9).snoc hown9.1 (zown_keep OU8.out OL8.out (by decide) hg9) HBV.out); have OC9 := Lib.hid (zown_keep OU8.out OC8.out (by decide) hg9); have OK9 := Lib.hid (zown_keep OU8.out OK8.out (by decide) hg9); have OU9 := Lib.hid hown9; obtain ⟨⟨x0', x1', x2'⟩, ⟨y0', y1', y2'⟩, -⟩ := E9.out.cells; clear hown9 hg9 hat9)
        have E10 := Lib.hid (E9.out.set2 (.slice A9 (j + 1) c9))
        have OU10 := Lib.hid (own_set4 OU9.out (p := ⟨w.heap.size + 1, 2, none⟩) (by dsimp only; omega) (.slice A9 (j + 1) c9))
        have OC10 := Lib.hid (own_set4 OC9.out (p := ⟨w.heap.size + 1, 2, none⟩) (by dsimp only; omega) (.slice A9 (j + 1) c9))
        have OK10 := Lib.hid (own_set4 OK9.out (p := ⟨w.heap.size + 1, 2, none⟩) (by dsimp only; omega) (.slice A9 (j + 1) c9))
        have RI10 := Lib.hid (RI9.out.set (p := ⟨w.heap.size + 1, 2, none⟩) (by dsimp only; omega) (.slice A9 (j + 1) c9))
        go_roundw
        case rel => exact ⟨j + 1, LU ++ [l], us ++ [.slice Al l.length cl], _, r7, b7, A9, c9, by omega, by omega, by go_num, by omega, by rw [List.length_append, hLU]; rfl, E10.out, HV7.out, ⟨OU10.out, RI10.out⟩, OC10.out, OK10.out, HTJ.out⟩
        case measure => simp [intOf]; omega
      · have HT2 := Lib.hid (fun c0 k0 u0 (h1 : rightS c0 k0 u0 = true) (h2 : encSch c0 k0 u0 = s) => show L = c0 ∧ key = k0 ∧ LU = u0 ∧ bad' = false from by
          obtain ⟨a1, a2, a3, a4, a5, a6, a7⟩ := HT.out c0 k0 u0 h1 h2
          have hj : j = u0.length := by omega
          rw [hj, List.take_length] at a6
          exact ⟨a1, a2, a6, a5⟩)
        clear HT
        clear E4x OC4 OK4 HV4 HT4
        by_cases hj4' : j < 4
        · obtain rfl : j = u := by omega
          clear hgo
          have HLN := hL
          have hcols := cols_of_own OC.out hL.symm
          have hkey := ints_of_own OK.out
          have huq := lists_of_own OU.out.1 OU.out.2
          have HEN := Lib.hid (r4EncodeSchema_any _ _ _ L key LU wr hcols hkey huq (fun cc hcc => by have := HNM.out cc hcc; omega))
          obtain ⟨⟨z0', z1', z2'⟩, -, ⟨y0, y1⟩, -⟩ := E.out.cells
          clear hcols hkey huq
          go_wp2_with fail
          refine HEN.out.mono ?_
          rintro e w7 ⟨v7, rfl, hv7, hb7⟩
          have E7 := Lib.hid (E.out.bel hb7)
          have hbs7 := (HBS.out.bel E7.out.1)
          obtain ⟨⟨g0, g1, g2⟩, -, ⟨x0, x1⟩, -⟩ := E7.out.cells
          obtain ⟨⟨q0, q1, q2⟩, o0, o1, o2⟩ := E7.out.res
          have OU7 := Lib.hid (And.intro (ownsRow_bel OU.out.1 hb7) (OU.out.2.bel hb7))
          have OC7 := Lib.hid (ownsRow_bel OC.out hb7)
          have OK7 := Lib.hid (ownsRow_bel OK.out hb7)
          have HNF : Hid ((∀ c0 k0 u0, rightS c0 k0 u0 = true → encSch c0 k0 u0 = s → ¬ (rightS L key LU = true ∧ encSch L key LU = s ∧ bad' = false) → False)) := fun c0 k0 u0 h1 h2 h3 => by
            obtain ⟨a1, a2, a3, a4⟩ := HT2.out c0 k0 u0 h1 h2
            exact h3 ⟨by rw [a1, a2, a3]; exact h1, by rw [a1, a2, a3]; exact h2, a4⟩
          have HBAD : Hid (¬ (rightS L key LU = true ∧ encSch L key LU = s ∧ bad' = false) → R = none) := fun h => HNO.out fun c0 k0 u0 hc => by
            obtain ⟨h1, h2⟩ := HRS.out c0 k0 u0 hc
            exact HNF.out c0 k0 u0 h1 h2 h
          have HZF : Hid ((fun V => Bel w V ∧ V.cell? ⟨w.heap.size, 0, none⟩ = some (.slice none 0 0) ∧ V.cell? ⟨w.heap.size, 1, none⟩ = some (.slice none 0 0) ∧ V.cell? ⟨w.heap.size, 2, none⟩ = some (.slice none 0 0)) (((w7.setCell ⟨w.heap.size, 0, none⟩ (.slice none 0 0)).setCell ⟨w.heap.size, 1, none⟩ (.slice none 0 0)).setCell ⟨w.heap.size, 2, none⟩ (.slice none 0 0))) := by
            have hK := ((E7.out.2.1.set_ 0 (.slice none 0 0)).set_ 1 (.slice none 0 0)).set_ 2 (.slice none 0 0)
            exact ⟨((E7.out.1.setCell (Nat.le_refl _) _).setCell (Nat.le_refl _) _).setCell (Nat.le_refl _) _, (hK.cell 0).trans rfl, (hK.cell 1).trans rfl, (hK.cell 2).trans rfl⟩
          have HCV := Lib.hid hv7
          obtain ⟨A7, c7, rfl, -, -, r7⟩ := hv7
          obtain ⟨Ab', cb', hbe, -, -, rb⟩ := hbs7
          injection hbe with hbe1 hbe2 hbe3
          subst hbe1 hbe3
          have hca : (convert 63 9 (.slice A7 (encSR L key LU).1.length c7)).run Tryz.prog w7 = .ok (.string ⟨(encSR L key LU).1.toArray⟩) w7 := conv_reads _ r7
          have hcb : (convert 63 9 (.slice Ab s.length cb)).run Tryz.prog w7 = .ok (.string ⟨s.toArray⟩) w7 := conv_reads (s := s) _ rb
          clear hb7 r7 rb z0' z1' z2' y0 y1 HEN E OU OC OK HCV hbe2
          unfold encSR at hca ⊢
          cases bad' with
          | true =>
            obtain rfl : R = none := HBAD.out (fun h => by cases h.2.2)
            clear HBAD HNF HT2
            by_cases hri : rightS L key LU = true
            · rw [if_pos hri] at hca ⊢
              dsimp only at hca ⊢
              clear hri
              go_wp2
              refine bodyPost_ret (v := .tuple #[.agg #[.slice none 0 0, .slice none 0 0, .slice none 0 0], .int .i64 140]) (by simp [results, Tryz.results49, go_sem, HZF.out.2.1, HZF.out.2.2.1, HZF.out.2.2.2]) rfl ⟨rfl, HZF.out.1⟩
            · rw [if_neg hri] at hca ⊢
              dsimp only at hca ⊢
              clear hri
              go_wp2
              refine bodyPost_ret (v := .tuple #[.agg #[.slice none 0 0, .slice none 0 0, .slice none 0 0], .int .i64 140]) (by simp [results, Tryz.results49, go_sem, HZF.out.2.1, HZF.out.2.2.1, HZF.out.2.2.2]) rfl ⟨rfl, HZF.out.1⟩
          | false =>
            by_cases hri : rightS L key LU = true
            · rw [if_pos hri] at hca ⊢
              dsimp only at hca ⊢
              obtain ⟨SE, hSE⟩ : ∃ x : ByteArray, x = ⟨(encSch L key LU).toArray⟩ := ⟨_, rfl⟩
              obtain ⟨SB, hSB⟩ : ∃ x : ByteArray, x = ⟨s.toArray⟩ := ⟨_, rfl⟩
              rw [← hSE] at hca
              rw [← hSB] at hcb
              by_cases heq : encSch L key LU = s
              · obtain rfl : R = some (L, key, LU) := HRE.out L key LU hri heq
                obtain rfl : SE = SB := by rw [hSE, hSB, heq]
                have HFIN : Hid ((fun V => ColsAt V (.slice A k c) L ∧ IntsAt V (.slice Ak key.length ck) key ∧ ListsAt V (.slice A2 j c2) LU ∧ Bel w V ∧ V.cell? ⟨w.heap.size, 0, none⟩ = some (.slice A k c) ∧ V.cell? ⟨w.heap.size, 1, none⟩ = some (.slice Ak key.length ck) ∧ V.cell? ⟨w.heap.size, 2, none⟩ = some (.slice A2 j c2)) (((w7.setCell ⟨w.heap.size, 0, none⟩ (.slice A k c)).setCell ⟨w.heap.size, 1, none⟩ (.slice Ak key.length ck)).setCell ⟨w.heap.size, 2, none⟩ (.slice A2 j c2))) := by
                  have a0 := fun {b T s n : Nat} {v : Value} {xs : List Value} (V : World) (h : V.ownsRow b T s v n xs) (hb : br + 1 ≤ b) (p : Addr) (hp : p.block < br) (q : Value) => own_set4 (p := p) h (by omega) q
                  have h0 : (⟨w.heap.size, 0, none⟩ : Addr).block < br := by dsimp only; omega
                  have h1 : (⟨w.heap.size, 1, none⟩ : Addr).block < br := by dsimp only; omega
                  have h2 : (⟨w.heap.size, 2, none⟩ : Addr).block < br := by dsimp only; omega
                  have k0 : (⟨w.heap.size, 0, none⟩ : Addr).block < br + 1 := by dsimp only; omega
                  have k1 : (⟨w.heap.size, 1, none⟩ : Addr).block < br + 1 := by dsimp only; omega
                  have k2 : (⟨w.heap.size, 2, none⟩ : Addr).block < br + 1 := by dsimp only; omega
                  have hK := ((E7.out.2.1.set_ 0 (.slice A k c)).set_ 1 (.slice Ak key.length ck)).set_ 2 (.slice A2 j c2)
                  exact ⟨cols_of_own (a0 _ (a0 _ (a0 _ OC7.out (Nat.le_refl _) _ h0 _) (Nat.le_refl _) _ h1 _) (Nat.le_refl _) _ h2 _) HLN.symm,
                    ints_of_own (a0 _ (a0 _ (a0 _ OK7.out hbk _ h0 _) hbk _ h1 _) hbk _ h2 _),
                    lists_of_own (a0 _ (a0 _ (a0 _ OU7.out.1 (Nat.le_refl _) _ h0 _) (Nat.le_refl _) _ h1 _) (Nat.le_refl _) _ h2 _) (((OU7.out.2.set k0 _).set k1 _).set k2 _),
                    ((E7.out.1.setCell (Nat.le_refl _) _).setCell (Nat.le_refl _) _).setCell (Nat.le_refl _) _, (hK.cell 0).trans rfl, (hK.cell 1).trans rfl, (hK.cell 2).trans rfl⟩
                clear HBAD HNF HT2 hSE hSB heq hri OU7 OC7 OK7
                go_wp2
                obtain ⟨p0, p1, p2, p3, p4, p5, p6⟩ := HFIN.out
                refine bodyPost_ret (v := .tuple #[.agg #[.slice A k c, .slice Ak key.length ck, .slice A2 j c2], .int .i64 0]) (by simp [results, Tryz.results49, go_sem, p4, p5, p6]) rfl ⟨_, _, _, rfl, p0, p1, p2, p3⟩
              · obtain rfl : R = none := HBAD.out (fun h => heq h.2.1)
                have hne : (SE.toList == SB.toList) = false := by
                  rw [hSE, hSB, str_beq]
                  exact decide_eq_false fun e => heq (by have := congrArg ByteArray.data e; simpa using this)
                clear HBAD HNF HT2 hSE hSB heq hri
                go_wp2
                refine bodyPost_ret (v := .tuple #[.agg #[.slice none 0 0, .slice none 0 0, .slice none 0 0], .int .i64 140]) (by simp [results, Tryz.results49, go_sem, HZF.out.2.1, HZF.out.2.2.1, HZF.out.2.2.2]) rfl ⟨rfl, HZF.out.1⟩
            · rw [if_neg hri] at hca ⊢
              dsimp only at hca ⊢
              obtain rfl : R = none := HBAD.out (fun h => hri h.1)
              clear HBAD HNF HT2 hri
              go_wp2
              refine bodyPost_ret (v := .tuple #[.agg #[.slice none 0 0, .slice none 0 0, .slice none 0 0], .int .i64 140]) (by simp [results, Tryz.results49, go_sem, HZF.out.2.1, HZF.out.2.2.1, HZF.out.2.2.2]) rfl ⟨rfl, HZF.out.1⟩
        · obtain rfl : j = 4 := by omega
          have hnI2 : (4 : Int) < u ∨ u = 4 := by omega
          clear hgo
          rcases hnI2 with hnI2 | rfl
          · clear hj4'
            have HLN := hL
            have hcols := cols_of_own OC.out hL.symm
            have hkey := ints_of_own OK.out
            have huq := lists_of_own OU.out.1 OU.out.2
            have HEN := Lib.hid (r4EncodeSchema_any _ _ _ L key LU wr hcols hkey huq (fun cc hcc => by have := HNM.out cc hcc; omega))
            obtain ⟨⟨z0', z1', z2'⟩, -, ⟨y0, y1⟩, -⟩ := E.out.cells
            clear hcols hkey huq
            go_wp2_with fail
            refine HEN.out.mono ?_
            rintro e w7 ⟨v7, rfl, hv7, hb7⟩
            have E7 := Lib.hid (E.out.bel hb7)
            have hbs7 := (HBS.out.bel E7.out.1)
            obtain ⟨⟨g0, g1, g2⟩, -, ⟨x0, x1⟩, -⟩ := E7.out.cells
            obtain ⟨⟨q0, q1, q2⟩, o0, o1, o2⟩ := E7.out.res
            have OU7 := Lib.hid (And.intro (ownsRow_bel OU.out.1 hb7) (OU.out.2.bel hb7))
            have OC7 := Lib.hid (ownsRow_bel OC.out hb7)
            have OK7 := Lib.hid (ownsRow_bel OK.out hb7)
            have HNF : Hid ((∀ c0 k0 u0, rightS c0 k0 u0 = true → encSch c0 k0 u0 = s → ¬ (rightS L key LU = true ∧ encSch L key LU = s ∧ bad' = false) → False)) := fun c0 k0 u0 h1 h2 h3 => by
              obtain ⟨a1, a2, a3, a4⟩ := HT2.out c0 k0 u0 h1 h2
              exact h3 ⟨by rw [a1, a2, a3]; exact h1, by rw [a1, a2, a3]; exact h2, a4⟩
            have HBAD : Hid (¬ (rightS L key LU = true ∧ encSch L key LU = s ∧ bad' = false) → R = none) := fun h => HNO.out fun c0 k0 u0 hc => by
              obtain ⟨h1, h2⟩ := HRS.out c0 k0 u0 hc
              exact HNF.out c0 k0 u0 h1 h2 h
            have HZF : Hid ((fun V => Bel w V ∧ V.cell? ⟨w.heap.size, 0, none⟩ = some (.slice none 0 0) ∧ V.cell? ⟨w.heap.size, 1, none⟩ = some (.slice none 0 0) ∧ V.cell? ⟨w.heap.size, 2, none⟩ = some (.slice none 0 0)) (((w7.setCell ⟨w.heap.size, 0, none⟩ (.slice none 0 0)).setCell ⟨w.heap.size, 1, none⟩ (.slice none 0 0)).setCell ⟨w.heap.size, 2, none⟩ (.slice none 0 0))) := by
              have hK := ((E7.out.2.1.set_ 0 (.slice none 0 0)).set_ 1 (.slice none 0 0)).set_ 2 (.slice none 0 0)
              exact ⟨((E7.out.1.setCell (Nat.le_refl _) _).setCell (Nat.le_refl _) _).setCell (Nat.le_refl _) _, (hK.cell 0).trans rfl, (hK.cell 1).trans rfl, (hK.cell 2).trans rfl⟩
            have HCV := Lib.hid hv7
            obtain ⟨A7, c7, rfl, -, -, r7⟩ := hv7
            obtain ⟨Ab', cb', hbe, -, -, rb⟩ := hbs7
            injection hbe with hbe1 hbe2 hbe3
            subst hbe1 hbe3
            have hca : (convert 63 9 (.slice A7 (encSR L key LU).1.length c7)).run Tryz.prog w7 = .ok (.string ⟨(encSR L key LU).1.toArray⟩) w7 := conv_reads _ r7
            have hcb : (convert 63 9 (.slice Ab s.length cb)).run Tryz.prog w7 = .ok (.string ⟨s.toArray⟩) w7 := conv_reads (s := s) _ rb
            clear hb7 r7 rb z0' z1' z2' y0 y1 HEN E OU OC OK HCV hbe2
            unfold encSR at hca ⊢
            cases bad' with
            | true =>
              obtain rfl : R = none := HBAD.out (fun h => by cases h.2.2)
              clear HBAD HNF HT2
              by_cases hri : rightS L key LU = true
              · rw [if_pos hri] at hca ⊢
                dsimp only at hca ⊢
                clear hri
                go_wp2
                refine bodyPost_ret (v := .tuple #[.agg #[.slice none 0 0, .slice none 0 0, .slice none 0 0], .int .i64 140]) (by simp [results, Tryz.results49, go_sem, HZF.out.2.1, HZF.out.2.2.1, HZF.out.2.2.2]) rfl ⟨rfl, HZF.out.1⟩
              · rw [if_neg hri] at hca ⊢
                dsimp only at hca ⊢
                clear hri
                go_wp2
                refine bodyPost_ret (v := .tuple #[.agg #[.slice none 0 0, .slice none 0 0, .slice none 0 0], .int .i64 140]) (by simp [results, Tryz.results49, go_sem, HZF.out.2.1, HZF.out.2.2.1, HZF.out.2.2.2]) rfl ⟨rfl, HZF.out.1⟩
            | false =>
              by_cases hri : rightS L key LU = true
              · rw [if_pos hri] at hca ⊢
                dsimp only at hca ⊢
                obtain ⟨SE, hSE⟩ : ∃ x : ByteArray, x = ⟨(encSch L key LU).toArray⟩ := ⟨_, rfl⟩
                obtain ⟨SB, hSB⟩ : ∃ x : ByteArray, x = ⟨s.toArray⟩ := ⟨_, rfl⟩
                rw [← hSE] at hca
                rw [← hSB] at hcb
                by_cases heq : encSch L key LU = s
                · obtain rfl : R = some (L, key, LU) := HRE.out L key LU hri heq
                  obtain rfl : SE = SB := by rw [hSE, hSB, heq]
                  have HFIN : Hid ((fun V => ColsAt V (.slice A k c) L ∧ IntsAt V (.slice Ak key.length ck) key ∧ ListsAt V (.slice A2 4 c2) LU ∧ Bel w V ∧ V.cell? ⟨w.heap.size, 0, none⟩ = some (.slice A k c) ∧ V.cell? ⟨w.heap.size, 1, none⟩ = some (.slice Ak key.length ck) ∧ V.cell? ⟨w.heap.size, 2, none⟩ = some (.slice A2 4 c2)) (((w7.setCell ⟨w.heap.size, 0, none⟩ (.slice A k c)).setCell ⟨w.heap.size, 1, none⟩ (.slice Ak key.length ck)).setCell ⟨w.heap.size, 2, none⟩ (.slice A2 4 c2))) := by
                    have a0 := fun {b T s n : Nat} {v : Value} {xs : List Value} (V : World) (h : V.ownsRow b T s v n xs) (hb : br + 1 ≤ b) (p : Addr) (hp : p.block < br) (q : Value) => own_set4 (p := p) h (by omega) q
                    have h0 : (⟨w.heap.size, 0, none⟩ : Addr).block < br := by dsimp only; omega
                    have h1 : (⟨w.heap.size, 1, none⟩ : Addr).block < br := by dsimp only; omega
                    have h2 : (⟨w.heap.size, 2, none⟩ : Addr).block < br := by dsimp only; omega
                    have k0 : (⟨w.heap.size, 0, none⟩ : Addr).block < br + 1 := by dsimp only; omega
                    have k1 : (⟨w.heap.size, 1, none⟩ : Addr).block < br + 1 := by dsimp only; omega
                    have k2 : (⟨w.heap.size, 2, none⟩ : Addr).block < br + 1 := by dsimp only; omega
                    have hK := ((E7.out.2.1.set_ 0 (.slice A k c)).set_ 1 (.slice Ak key.length ck)).set_ 2 (.slice A2 4 c2)
                    exact ⟨cols_of_own (a0 _ (a0 _ (a0 _ OC7.out (Nat.le_refl _) _ h0 _) (Nat.le_refl _) _ h1 _) (Nat.le_refl _) _ h2 _) HLN.symm,
                      ints_of_own (a0 _ (a0 _ (a0 _ OK7.out hbk _ h0 _) hbk _ h1 _) hbk _ h2 _),
                      lists_of_own (a0 _ (a0 _ (a0 _ OU7.out.1 (Nat.le_refl _) _ h0 _) (Nat.le_refl _) _ h1 _) (Nat.le_refl _) _ h2 _) (((OU7.out.2.set k0 _).set k1 _).set k2 _),
                      ((E7.out.1.setCell (Nat.le_refl _) _).setCell (Nat.le_refl _) _).setCell (Nat.le_refl _) _, (hK.cell 0).trans rfl, (hK.cell 1).trans rfl, (hK.cell 2).trans rfl⟩
                  clear HBAD HNF HT2 hSE hSB heq hri OU7 OC7 OK7
                  go_wp2
                  obtain ⟨p0, p1, p2, p3, p4, p5, p6⟩ := HFIN.out
                  refine bodyPost_ret (v := .tuple #[.agg #[.slice A k c, .slice Ak key.length ck, .slice A2 4 c2], .int .i64 0]) (by simp [results, Tryz.results49, go_sem, p4, p5, p6]) rfl ⟨_, _, _, rfl, p0, p1, p2, p3⟩
                · obtain rfl : R = none := HBAD.out (fun h => heq h.2.1)
                  have hne : (SE.toList == SB.toList) = false := by
                    rw [hSE, hSB, str_beq]
                    exact decide_eq_false fun e => heq (by have := congrArg ByteArray.data e; simpa using this)
                  clear HBAD HNF HT2 hSE hSB heq hri
                  go_wp2
                  refine bodyPost_ret (v := .tuple #[.agg #[.slice none 0 0, .slice none 0 0, .slice none 0 0], .int .i64 140]) (by simp [results, Tryz.results49, go_sem, HZF.out.2.1, HZF.out.2.2.1, HZF.out.2.2.2]) rfl ⟨rfl, HZF.out.1⟩
              · rw [if_neg hri] at hca ⊢
                dsimp only at hca ⊢
                obtain rfl : R = none := HBAD.out (fun h => hri h.1)
                clear HBAD HNF HT2 hri
                go_wp2
                refine bodyPost_ret (v := .tuple #[.agg #[.slice none 0 0, .slice none 0 0, .slice none 0 0], .int .i64 140]) (by simp [results, Tryz.results49, go_sem, HZF.out.2.1, HZF.out.2.2.1, HZF.out.2.2.2]) rfl ⟨rfl, HZF.out.1⟩
          · clear hj4'
            have HLN := hL
            have hcols := cols_of_own OC.out hL.symm
            have hkey := ints_of_own OK.out
            have huq := lists_of_own OU.out.1 OU.out.2
            have HEN := Lib.hid (r4EncodeSchema_any _ _ _ L key LU wr hcols hkey huq (fun cc hcc => by have := HNM.out cc hcc; omega))
            obtain ⟨⟨z0', z1', z2'⟩, -, ⟨y0, y1⟩, -⟩ := E.out.cells
            clear hcols hkey huq
            go_wp2_with fail
            refine HEN.out.mono ?_
            rintro e w7 ⟨v7, rfl, hv7, hb7⟩
            have E7 := Lib.hid (E.out.bel hb7)
            have hbs7 := (HBS.out.bel E7.out.1)
            obtain ⟨⟨g0, g1, g2⟩, -, ⟨x0, x1⟩, -⟩ := E7.out.cells
            obtain ⟨⟨q0, q1, q2⟩, o0, o1, o2⟩ := E7.out.res
            have OU7 := Lib.hid (And.intro (ownsRow_bel OU.out.1 hb7) (OU.out.2.bel hb7))
            have OC7 := Lib.hid (ownsRow_bel OC.out hb7)
            have OK7 := Lib.hid (ownsRow_bel OK.out hb7)
            have HNF : Hid ((∀ c0 k0 u0, rightS c0 k0 u0 = true → encSch c0 k0 u0 = s → ¬ (rightS L key LU = true ∧ encSch L key LU = s ∧ bad' = false) → False)) := fun c0 k0 u0 h1 h2 h3 => by
              obtain ⟨a1, a2, a3, a4⟩ := HT2.out c0 k0 u0 h1 h2
              exact h3 ⟨by rw [a1, a2, a3]; exact h1, by rw [a1, a2, a3]; exact h2, a4⟩
            have HBAD : Hid (¬ (rightS L key LU = true ∧ encSch L key LU = s ∧ bad' = false) → R = none) := fun h => HNO.out fun c0 k0 u0 hc => by
              obtain ⟨h1, h2⟩ := HRS.out c0 k0 u0 hc
              exact HNF.out c0 k0 u0 h1 h2 h
            have HZF : Hid ((fun V => Bel w V ∧ V.cell? ⟨w.heap.size, 0, none⟩ = some (.slice none 0 0) ∧ V.cell? ⟨w.heap.size, 1, none⟩ = some (.slice none 0 0) ∧ V.cell? ⟨w.heap.size, 2, none⟩ = some (.slice none 0 0)) (((w7.setCell ⟨w.heap.size, 0, none⟩ (.slice none 0 0)).setCell ⟨w.heap.size, 1, none⟩ (.slice none 0 0)).setCell ⟨w.heap.size, 2, none⟩ (.slice none 0 0))) := by
              have hK := ((E7.out.2.1.set_ 0 (.slice none 0 0)).set_ 1 (.slice none 0 0)).set_ 2 (.slice none 0 0)
              exact ⟨((E7.out.1.setCell (Nat.le_refl _) _).setCell (Nat.le_refl _) _).setCell (Nat.le_refl _) _, (hK.cell 0).trans rfl, (hK.cell 1).trans rfl, (hK.cell 2).trans rfl⟩
            have HCV := Lib.hid hv7
            obtain ⟨A7, c7, rfl, -, -, r7⟩ := hv7
            obtain ⟨Ab', cb', hbe, -, -, rb⟩ := hbs7
            injection hbe with hbe1 hbe2 hbe3
            subst hbe1 hbe3
            have hca : (convert 63 9 (.slice A7 (encSR L key LU).1.length c7)).run Tryz.prog w7 = .ok (.string ⟨(encSR L key LU).1.toArray⟩) w7 := conv_reads _ r7
            have hcb : (convert 63 9 (.slice Ab s.length cb)).run Tryz.prog w7 = .ok (.string ⟨s.toArray⟩) w7 := conv_reads (s := s) _ rb
            clear hb7 r7 rb z0' z1' z2' y0 y1 HEN E OU OC OK HCV hbe2
            unfold encSR at hca ⊢
            cases bad' with
            | true =>
              obtain rfl : R = none := HBAD.out (fun h => by cases h.2.2)
              clear HBAD HNF HT2
              by_cases hri : rightS L key LU = true
              · rw [if_pos hri] at hca ⊢
                dsimp only at hca ⊢
                clear hri
                go_wp2
                refine bodyPost_ret (v := .tuple #[.agg #[.slice none 0 0, .slice none 0 0, .slice none 0 0], .int .i64 140]) (by simp [results, Tryz.results49, go_sem, HZF.out.2.1, HZF.out.2.2.1, HZF.out.2.2.2]) rfl ⟨rfl, HZF.out.1⟩
              · rw [if_neg hri] at hca ⊢
                dsimp only at hca ⊢
                clear hri
                go_wp2
                refine bodyPost_ret (v := .tuple #[.agg #[.slice none 0 0, .slice none 0 0, .slice none 0 0], .int .i64 140]) (by simp [results, Tryz.results49, go_sem, HZF.out.2.1, HZF.out.2.2.1, HZF.out.2.2.2]) rfl ⟨rfl, HZF.out.1⟩
            | false =>
              by_cases hri : rightS L key LU = true
              · rw [if_pos hri] at hca ⊢
                dsimp only at hca ⊢
                obtain ⟨SE, hSE⟩ : ∃ x : ByteArray, x = ⟨(encSch L key LU).toArray⟩ := ⟨_, rfl⟩
                obtain ⟨SB, hSB⟩ : ∃ x : ByteArray, x = ⟨s.toArray⟩ := ⟨_, rfl⟩
                rw [← hSE] at hca
                rw [← hSB] at hcb
                by_cases heq : encSch L key LU = s
                · obtain rfl : R = some (L, key, LU) := HRE.out L key LU hri heq
                  obtain rfl : SE = SB := by rw [hSE, hSB, heq]
                  have HFIN : Hid ((fun V => ColsAt V (.slice A k c) L ∧ IntsAt V (.slice Ak key.length ck) key ∧ ListsAt V (.slice A2 4 c2) LU ∧ Bel w V ∧ V.cell? ⟨w.heap.size, 0, none⟩ = some (.slice A k c) ∧ V.cell? ⟨w.heap.size, 1, none⟩ = some (.slice Ak key.length ck) ∧ V.cell? ⟨w.heap.size, 2, none⟩ = some (.slice A2 4 c2)) (((w7.setCell ⟨w.heap.size, 0, none⟩ (.slice A k c)).setCell ⟨w.heap.size, 1, none⟩ (.slice Ak key.length ck)).setCell ⟨w.heap.size, 2, none⟩ (.slice A2 4 c2))) := by
                    have a0 := fun {b T s n : Nat} {v : Value} {xs : List Value} (V : World) (h : V.ownsRow b T s v n xs) (hb : br + 1 ≤ b) (p : Addr) (hp : p.block < br) (q : Value) => own_set4 (p := p) h (by omega) q
                    have h0 : (⟨w.heap.size, 0, none⟩ : Addr).block < br := by dsimp only; omega
                    have h1 : (⟨w.heap.size, 1, none⟩ : Addr).block < br := by dsimp only; omega
                    have h2 : (⟨w.heap.size, 2, none⟩ : Addr).block < br := by dsimp only; omega
                    have k0 : (⟨w.heap.size, 0, none⟩ : Addr).block < br + 1 := by dsimp only; omega
                    have k1 : (⟨w.heap.size, 1, none⟩ : Addr).block < br + 1 := by dsimp only; omega
                    have k2 : (⟨w.heap.size, 2, none⟩ : Addr).block < br + 1 := by dsimp only; omega
                    have hK := ((E7.out.2.1.set_ 0 (.slice A k c)).set_ 1 (.slice Ak key.length ck)).set_ 2 (.slice A2 4 c2)
                    exact ⟨cols_of_own (a0 _ (a0 _ (a0 _ OC7.out (Nat.le_refl _) _ h0 _) (Nat.le_refl _) _ h1 _) (Nat.le_refl _) _ h2 _) HLN.symm,
                      ints_of_own (a0 _ (a0 _ (a0 _ OK7.out hbk _ h0 _) hbk _ h1 _) hbk _ h2 _),
                      lists_of_own (a0 _ (a0 _ (a0 _ OU7.out.1 (Nat.le_refl _) _ h0 _) (Nat.le_refl _) _ h1 _) (Nat.le_refl _) _ h2 _) (((OU7.out.2.set k0 _).set k1 _).set k2 _),
                      ((E7.out.1.setCell (Nat.le_refl _) _).setCell (Nat.le_refl _) _).setCell (Nat.le_refl _) _, (hK.cell 0).trans rfl, (hK.cell 1).trans rfl, (hK.cell 2).trans rfl⟩
                  clear HBAD HNF HT2 hSE hSB heq hri OU7 OC7 OK7
                  go_wp2
                  obtain ⟨p0, p1, p2, p3, p4, p5, p6⟩ := HFIN.out
                  refine bodyPost_ret (v := .tuple #[.agg #[.slice A k c, .slice Ak key.length ck, .slice A2 4 c2], .int .i64 0]) (by simp [results, Tryz.results49, go_sem, p4, p5, p6]) rfl ⟨_, _, _, rfl, p0, p1, p2, p3⟩
                · obtain rfl : R = none := HBAD.out (fun h => heq h.2.1)
                  have hne : (SE.toList == SB.toList) = false := by
                    rw [hSE, hSB, str_beq]
                    exact decide_eq_false fun e => heq (by have := congrArg ByteArray.data e; simpa using this)
                  clear HBAD HNF HT2 hSE hSB heq hri
                  go_wp2
                  refine bodyPost_ret (v := .tuple #[.agg #[.slice none 0 0, .slice none 0 0, .slice none 0 0], .int .i64 140]) (by simp [results, Tryz.results49, go_sem, HZF.out.2.1, HZF.out.2.2.1, HZF.out.2.2.2]) rfl ⟨rfl, HZF.out.1⟩
              · rw [if_neg hri] at hca ⊢
                dsimp only at hca ⊢
                obtain rfl : R = none := HBAD.out (fun h => hri h.1)
                clear HBAD HNF HT2 hri
                go_wp2
                refine bodyPost_ret (v := .tuple #[.agg #[.slice none 0 0, .slice none 0 0, .slice none 0 0], .int .i64 140]) (by simp [results, Tryz.results49, go_sem, HZF.out.2.1, HZF.out.2.2.1, HZF.out.2.2.2]) rfl ⟨rfl, HZF.out.1⟩
  · intros V z7 z8 z9 z10 z11 z12 z13 z18 z19 z20 z21 z22 z23 z24 z25 z26 z27 z28 z29 z30 z31 z32 z33 z34 z35 z36 z37 z38 z39 z40 z41 z42 z43 z44 z45 z46 z47 z48 z49 z50 z51 z52 z53 z54 z55 z56 z57 z58 z59 z60 z61 z62 z63 z64 z65 z66 z67 z68 z69 z70 z71 z72 z73 z74 z75 z76 z77 z78 hh
    obtain ⟨hRn, ⟨q0, q1, q2⟩, hbV⟩ := hh
    obtain rfl := hRn
    refine zinBlockRet ?_
    dsimp only [Exit.then]
    refine bodyPost_ret (v := .tuple #[.agg #[.slice none 0 0, .slice none 0 0, .slice none 0 0], .int .i64 140]) (by simp [results, Tryz.results49, go_sem, q0, q1, q2]) rfl ⟨rfl, hbV⟩
end Go.Proofs.YtkklmflclmgjeaaGreatDoor

/-
  Schema: whether lists of numbers are the same.
-/
set_option linter.unusedVariables false
set_option linter.unusedSimpArgs false
set_option linter.unusedVariables false
set_option linter.unusedSimpArgs false
namespace Go.Proofs.YtkklmflclmgjeaaGreatDoor
open Go.RowKit Go.Shelf Go.Lib
attribute [local go_sem] Oper.semAt_some

set_option maxRecDepth 100000 in
set_option maxHeartbeats 4000000 in
theorem slEqualInt_any (va vb : Value) (a b : List Int) (w : World) (ha : IntsAt w va a) (hb : IntsAt w vb b) : Calls Tryz.prog 62 #[va, vb] w fun e w' => e = .returned (.bool (decide (a = b))) ∧ Bel w w' := by
  obtain ⟨R, hR⟩ : ∃ R, R = decide (a = b) := ⟨_, rfl⟩
  rw [← hR]
  have HR := Lib.hid hR
  clear hR
  obtain ⟨Aa, ca, rfl, hca, hma, hra⟩ := ha
  obtain ⟨Ab, cb, rfl, hcb, hmb, hrb⟩ := hb
  have haI : (a.length : Int) ≤ 9223372036854775807 := by unfold maxLen at hma; omega
  have hbI : (b.length : Int) ≤ 9223372036854775807 := by unfold maxLen at hmb; omega
  have HRA := Lib.hid hra
  have HRB := Lib.hid hrb
  clear hra hrb hma hmb hca hcb
  by_cases hab : a.length = b.length
  · have habI : ((a.length : Int) != b.length) = false := by rw [bne_eq_false_iff_eq]; omega
    have HAB := Lib.hid hab
    clear hab
    go_enter Tryz.func62, Tryz.ntmps62
    go_wp2
    go_loopw [13] (fun i wr => ∃ k : Nat, k ≤ a.length ∧ i = .int .i64 k ∧ Hid (Bel w wr) ∧ Hid (a.take k = b.take k)) (fun i _ => a.length - (intOf i).toNat)
    case atStart => exact ⟨0, Nat.zero_le _, rfl, Bel.refl w, by show _ = _; simp⟩
    case round =>
      obtain ⟨k, hk, rfl, HB, HT⟩ := hrel
      by_cases hlt : k < a.length
      · obtain ⟨x, hx⟩ : ∃ x, a[k]? = some x := ⟨_, List.getElem?_eq_getElem hlt⟩
        obtain ⟨y, hy⟩ : ∃ y, b[k]? = some y := ⟨_, List.getElem?_eq_getElem (by have := HAB.out; omega)⟩
        obtain ⟨ba, oa, rfl, hai⟩ := HRA.out (by omega)
        obtain ⟨bb, ob, rfl, hbi⟩ := HRB.out (by have := HAB.out; omega)
        have p0 := HB.out.drew.c (hai k x hx)
        have p1 := HB.out.drew.c (hbi k y hy)
        have hkI : (k : Int) < a.length := by omega
        have hkJ : (k : Int) < b.length := by have := HAB.out; omega
        have HNX : Hid (x = y → a.take (k + 1) = b.take (k + 1)) := fun e => by rw [List.take_add_one, List.take_add_one, hx, hy, HT.out, e]
        have HNO : Hid (¬ x = y → R = false) := fun e => by rw [HR.out]; exact decide_eq_false (fun h => e (by rw [h, hy] at hx; exact (Option.some.inj hx).symm))
        have HLT := Lib.hid hlt
        clear hx hy hai hbi hlt
        by_cases hxy : x = y
        · have ht := Lib.hid (HNX.out hxy)
          subst hxy
          have hxb : (x != x) = false := by simp
          go_wp2
          refine wp_region_noPanic ?_
          refine wp_region_held_drew (S := (fun V : World => V.cell? ⟨ba, oa + k, none⟩ = some (.int .i64 x) ∧ V.cell? ⟨bb, ob + k, none⟩ = some (.int .i64 x))) (by kernel_rfl) ?_ (fun hHr1_0 => ?_)
          · (try dsimp only); exact ⟨p0, p1⟩
          refine wpAnyH_take (i := 0) (oi := _) (v := ?vr1_1_0) rfl (by kernel_rfl) (by kernel_rfl) (by kernel_rfl) ?hqr1_1_0 (Or.inl ⟨by kernel_rfl, ?hyr1_1_0⟩) (by assumption) ?restr1_1_0
          case hqr1_1_0 => exact fun _ _ _ h => h
          case hyr1_1_0 => (intro w hSw; (try dsimp only at hSw); go_simp; try with_reducible rfl)
          try simp only [Act.put, List.getElem_toArray, List.getElem_cons_succ, List.getElem_cons_zero, List.setIfInBounds_toArray, List.set_cons_zero, List.set_cons_succ]
          refine wpAnyH_take (i := 1) (oi := _) (v := ?vr1_1_1) rfl (by kernel_rfl) (by kernel_rfl) (by kernel_rfl) ?hqr1_1_1 (Or.inl ⟨by kernel_rfl, ?hyr1_1_1⟩) (by assumption) ?restr1_1_1
          case hqr1_1_1 => exact fun _ _ _ h => h
          case hyr1_1_1 => (intro w hSw; (try dsimp only at hSw); go_simp; try with_reducible rfl)
          try simp only [Act.put, List.getElem_toArray, List.getElem_cons_succ, List.getElem_cons_zero, List.setIfInBounds_toArray, List.set_cons_zero, List.set_cons_succ]
          refine wpAnyH_take (i := 2) (oi := _) (v := ?vr1_1_2) rfl (by kernel_rfl) (by kernel_rfl) (by kernel_rfl) ?hqr1_1_2 (Or.inl ⟨by kernel_rfl, ?hyr1_1_2⟩) (by assumption) ?restr1_1_2
          case hqr1_1_2 => exact fun _ _ _ h => h
          case hyr1_1_2 => (intro w hSw; (try dsimp only at hSw); go_simp; try with_reducible rfl)
          try simp only [Act.put, List.getElem_toArray, List.getElem_cons_succ, List.getElem_cons_zero, List.setIfInBounds_toArray, List.set_cons_zero, List.set_cons_succ]
          refine wpAnyH_take (i := 3) (oi := _) (v := ?vr1_1_3) rfl (by kernel_rfl) (by kernel_rfl) (by kernel_rfl) ?hqr1_1_3 (Or.inl ⟨by kernel_rfl, ?hyr1_1_3⟩) (by assumption) ?restr1_1_3
          case hqr1_1_3 => exact fun _ _ _ h => h
          case hyr1_1_3 => (intro w hSw; (try dsimp only at hSw); go_simp; try with_reducible rfl)
          try simp only [Act.put, List.getElem_toArray, List.getElem_cons_succ, List.getElem_cons_zero, List.setIfInBounds_toArray, List.set_cons_zero, List.set_cons_succ]
          refine wpAnyH_take (i := 4) (oi := _) (v := ?vr1_1_4) rfl (by kernel_rfl) (by kernel_rfl) (by kernel_rfl) ?hqr1_1_4 (Or.inl ⟨by kernel_rfl, ?hyr1_1_4⟩) (by assumption) ?restr1_1_4
          case hqr1_1_4 => exact fun _ _ _ h => h
          case hyr1_1_4 => (intro w hSw; (try dsimp only at hSw); go_simp; try with_reducible rfl)
          try simp only [Act.put, List.getElem_toArray, List.getElem_cons_succ, List.getElem_cons_zero, List.setIfInBounds_toArray, List.set_cons_zero, List.set_cons_succ]
          refine wpAnyH_take (i := 5) (oi := _) (v := ?vr1_1_5) rfl (by kernel_rfl) (by kernel_rfl) (by kernel_rfl) ?hqr1_1_5 (Or.inl ⟨by kernel_rfl, ?hyr1_1_5⟩) (by assumption) ?restr1_1_5
          case hqr1_1_5 => exact fun _ _ _ h => h
          case hyr1_1_5 => (intro w hSw; (try dsimp only at hSw); go_simp; try with_reducible rfl)
          try simp only [Act.put, List.getElem_toArray, List.getElem_cons_succ, List.getElem_cons_zero, List.setIfInBounds_toArray, List.set_cons_zero, List.set_cons_succ]
          refine wpAnyH_take (i := 6) (oi := _) (v := ?vr1_1_6) rfl (by kernel_rfl) (by kernel_rfl) (by kernel_rfl) ?hqr1_1_6 (Or.inl ⟨by kernel_rfl, ?hyr1_1_6⟩) (by assumption) ?restr1_1_6
          case hqr1_1_6 => exact fun _ _ _ h => h
          case hyr1_1_6 => (intro w hSw; (try dsimp only at hSw); go_simp; try with_reducible rfl)
          try simp only [Act.put, List.getElem_toArray, List.getElem_cons_succ, List.getElem_cons_zero, List.setIfInBounds_toArray, List.set_cons_zero, List.set_cons_succ]
          refine wpAnyH_take (i := 7) (oi := _) (v := ?vr1_1_7) rfl (by kernel_rfl) (by kernel_rfl) (by kernel_rfl) ?hqr1_1_7 (Or.inl ⟨by kernel_rfl, ?hyr1_1_7⟩) (by assumption) ?restr1_1_7
          case hqr1_1_7 => exact fun _ _ _ h => h
          case hyr1_1_7 => (intro w hSw; (try dsimp only at hSw); go_simp; try with_reducible rfl)
          try simp only [Act.put, List.getElem_toArray, List.getElem_cons_succ, List.getElem_cons_zero, List.setIfInBounds_toArray, List.set_cons_zero, List.set_cons_succ]
          refine wpAnyH_take (i := 8) (oi := _) (v := ?vr1_1_8) rfl (by kernel_rfl) (by kernel_rfl) (by kernel_rfl) ?hqr1_1_8 (Or.inl ⟨by kernel_rfl, ?hyr1_1_8⟩) (by assumption) ?restr1_1_8
          case hqr1_1_8 => exact fun _ _ _ h => h
          case hyr1_1_8 => (intro w hSw; (try dsimp only at hSw); go_simp; try with_reducible rfl)
          try simp only [Act.put, List.getElem_toArray, List.getElem_cons_succ, List.getElem_cons_zero, List.setIfInBounds_toArray, List.set_cons_zero, List.set_cons_succ]
          refine wpAnyH_done (by kernel_rfl) ?_ _
          refine NoPanic.normal ?_
          go_wp2
          go_roundw
          case rel => exact ⟨k + 1, HLT.out, by go_num, HB.out.drew, ht.out⟩
          case measure => have := HLT.out; simp [intOf]; omega
        · have hf := HNO.out hxy
          have hxb : (x != y) = true := by rw [bne_iff_ne]; exact hxy
          go_wp2
          refine wp_region_noPanic ?_
          refine wp_region_held_drew (S := (fun V : World => V.cell? ⟨ba, oa + k, none⟩ = some (.int .i64 x) ∧ V.cell? ⟨bb, ob + k, none⟩ = some (.int .i64 y))) (by kernel_rfl) ?_ (fun hHr2_0 => ?_)
          · (try dsimp only); exact ⟨p0, p1⟩
          refine wpAnyH_take (i := 0) (oi := _) (v := ?vr2_1_0) rfl (by kernel_rfl) (by kernel_rfl) (by kernel_rfl) ?hqr2_1_0 (Or.inl ⟨by kernel_rfl, ?hyr2_1_0⟩) (by assumption) ?restr2_1_0
          case hqr2_1_0 => exact fun _ _ _ h => h
          case hyr2_1_0 => (intro w hSw; (try dsimp only at hSw); go_simp; try with_reducible rfl)
          try simp only [Act.put, List.getElem_toArray, List.getElem_cons_succ, List.getElem_cons_zero, List.setIfInBounds_toArray, List.set_cons_zero, List.set_cons_succ]
          refine wpAnyH_take (i := 1) (oi := _) (v := ?vr2_1_1) rfl (by kernel_rfl) (by kernel_rfl) (by kernel_rfl) ?hqr2_1_1 (Or.inl ⟨by kernel_rfl, ?hyr2_1_1⟩) (by assumption) ?restr2_1_1
          case hqr2_1_1 => exact fun _ _ _ h => h
          case hyr2_1_1 => (intro w hSw; (try dsimp only at hSw); go_simp; try with_reducible rfl)
          try simp only [Act.put, List.getElem_toArray, List.getElem_cons_succ, List.getElem_cons_zero, List.setIfInBounds_toArray, List.set_cons_zero, List.set_cons_succ]
          refine wpAnyH_take (i := 2) (oi := _) (v := ?vr2_1_2) rfl (by kernel_rfl) (by kernel_rfl) (by kernel_rfl) ?hqr2_1_2 (Or.inl ⟨by kernel_rfl, ?hyr2_1_2⟩) (by assumption) ?restr2_1_2
          case hqr2_1_2 => exact fun _ _ _ h => h
          case hyr2_1_2 => (intro w hSw; (try dsimp only at hSw); go_simp; try with_reducible rfl)
          try simp only [Act.put, List.getElem_toArray, List.getElem_cons_succ, List.getElem_cons_zero, List.setIfInBounds_toArray, List.set_cons_zero, List.set_cons_succ]
          refine wpAnyH_take (i := 3) (oi := _) (v := ?vr2_1_3) rfl (by kernel_rfl) (by kernel_rfl) (by kernel_rfl) ?hqr2_1_3 (Or.inl ⟨by kernel_rfl, ?hyr2_1_3⟩) (by assumption) ?restr2_1_3
          case hqr2_1_3 => exact fun _ _ _ h => h
          case hyr2_1_3 => (intro w hSw; (try dsimp only at hSw); go_simp; try with_reducible rfl)
          try simp only [Act.put, List.getElem_toArray, List.getElem_cons_succ, List.getElem_cons_zero, List.setIfInBounds_toArray, List.set_cons_zero, List.set_cons_succ]
          refine wpAnyH_take (i := 4) (oi := _) (v := ?vr2_1_4) rfl (by kernel_rfl) (by kernel_rfl) (by kernel_rfl) ?hqr2_1_4 (Or.inl ⟨by kernel_rfl, ?hyr2_1_4⟩) (by assumption) ?restr2_1_4
          case hqr2_1_4 => exact fun _ _ _ h => h
          case hyr2_1_4 => (intro w hSw; (try dsimp only at hSw); go_simp; try with_reducible rfl)
          try simp only [Act.put, List.getElem_toArray, List.getElem_cons_succ, List.getElem_cons_zero, List.setIfInBounds_toArray, List.set_cons_zero, List.set_cons_succ]
          refine wpAnyH_take (i := 5) (oi := _) (v := ?vr2_1_5) rfl (by kernel_rfl) (by kernel_rfl) (by kernel_rfl) ?hqr2_1_5 (Or.inl ⟨by kernel_rfl, ?hyr2_1_5⟩) (by assumption) ?restr2_1_5
          case hqr2_1_5 => exact fun _ _ _ h => h
          case hyr2_1_5 => (intro w hSw; (try dsimp only at hSw); go_simp; try with_reducible rfl)
          try simp only [Act.put, List.getElem_toArray, List.getElem_cons_succ, List.getElem_cons_zero, List.setIfInBounds_toArray, List.set_cons_zero, List.set_cons_succ]
          refine wpAnyH_take (i := 6) (oi := _) (v := ?vr2_1_6) rfl (by kernel_rfl) (by kernel_rfl) (by kernel_rfl) ?hqr2_1_6 (Or.inl ⟨by kernel_rfl, ?hyr2_1_6⟩) (by assumption) ?restr2_1_6
          case hqr2_1_6 => exact fun _ _ _ h => h
          case hyr2_1_6 => (intro w hSw; (try dsimp only at hSw); go_simp; try with_reducible rfl)
          try simp only [Act.put, List.getElem_toArray, List.getElem_cons_succ, List.getElem_cons_zero, List.setIfInBounds_toArray, List.set_cons_zero, List.set_cons_succ]
          refine wpAnyH_take (i := 7) (oi := _) (v := ?vr2_1_7) rfl (by kernel_rfl) (by kernel_rfl) (by kernel_rfl) ?hqr2_1_7 (Or.inl ⟨by kernel_rfl, ?hyr2_1_7⟩) (by assumption) ?restr2_1_7
          case hqr2_1_7 => exact fun _ _ _ h => h
          case hyr2_1_7 => (intro w hSw; (try dsimp only at hSw); go_simp; try with_reducible rfl)
          try simp only [Act.put, List.getElem_toArray, List.getElem_cons_succ, List.getElem_cons_zero, List.setIfInBounds_toArray, List.set_cons_zero, List.set_cons_succ]
          refine wpAnyH_take (i := 8) (oi := _) (v := ?vr2_1_8) rfl (by kernel_rfl) (by kernel_rfl) (by kernel_rfl) ?hqr2_1_8 (Or.inl ⟨by kernel_rfl, ?hyr2_1_8⟩) (by assumption) ?restr2_1_8
          case hqr2_1_8 => exact fun _ _ _ h => h
          case hyr2_1_8 => (intro w hSw; (try dsimp only at hSw); go_simp; try with_reducible rfl)
          try simp only [Act.put, List.getElem_toArray, List.getElem_cons_succ, List.getElem_cons_zero, List.setIfInBounds_toArray, List.set_cons_zero, List.set_cons_succ]
          refine wpAnyH_done (by kernel_rfl) ?_ _
          refine NoPanic.normal ?_
          go_wp2
          go_ret
          exact ⟨by first | rfl | (rw [hf]; rfl), HB.out.drew⟩
      · obtain rfl : k = a.length := by omega
        have ht : R = true := by
          rw [HR.out]
          have := HT.out
          rw [List.take_length, HAB.out, List.take_length] at this
          exact decide_eq_true this
        clear HT hlt hk
        go_wp2
        go_ret
        exact ⟨by first | rfl | (rw [ht]; rfl), HB.out⟩
  · have hf : R = false := by rw [HR.out]; exact decide_eq_false (fun e => hab (by rw [e]))
    have habI : ((a.length : Int) != b.length) = true := by rw [bne_iff_ne]; omega
    go_enter Tryz.func62, Tryz.ntmps62
    go_wp2
    go_ret
    exact ⟨by first | rfl | (rw [hf]; rfl), by (repeat (first | exact Below.refl _ _ | assumption | exact Bel.refl _ | refine Bel.alloc ?_ _ | refine Bel.drew ?_ | refine Bel.drewN ?_ _ | refine Bel.then_ ?_ (by assumption) | refine Bel.setCell ?_ (by first | (simp; done) | (simp; omega)) _))⟩
set_option maxRecDepth 100000 in
set_option maxHeartbeats 4000000 in
theorem tInts3_any (va vb : Value) (a b : List Int) (w : World) (ha : IntsAt w va a) (hb : IntsAt w vb b) : Calls Tryz.prog 33 #[va, vb] w fun e w' => e = .returned (.bool (decide (a = b))) ∧ Bel w w' := by
  obtain ⟨R, hR⟩ : ∃ R, R = decide (a = b) := ⟨_, rfl⟩
  rw [← hR]
  have HR := Lib.hid hR
  clear hR
  obtain ⟨Aa, ca, rfl, hca, hma, hra⟩ := ha
  obtain ⟨Ab, cb, rfl, hcb, hmb, hrb⟩ := hb
  have haI : (a.length : Int) ≤ 9223372036854775807 := by unfold maxLen at hma; omega
  have hbI : (b.length : Int) ≤ 9223372036854775807 := by unfold maxLen at hmb; omega
  have HRA := Lib.hid hra
  have HRB := Lib.hid hrb
  clear hra hrb hma hmb hca hcb
  by_cases hab : a.length = b.length
  · have habI : ((a.length : Int) != b.length) = false := by rw [bne_eq_false_iff_eq]; omega
    have HAB := Lib.hid hab
    clear hab
    go_enter Tryz.func33, Tryz.ntmps33
    go_wp2
    go_loopw [5] (fun i wr => ∃ k : Nat, k ≤ a.length ∧ i = .int .i64 k ∧ Hid (Bel w wr) ∧ Hid (a.take k = b.take k)) (fun i _ => a.length - (intOf i).toNat)
    case atStart => exact ⟨0, Nat.zero_le _, rfl, Bel.refl w, by show _ = _; simp⟩
    case round =>
      obtain ⟨k, hk, rfl, HB, HT⟩ := hrel
      by_cases hlt : k < a.length
      · obtain ⟨x, hx⟩ : ∃ x, a[k]? = some x := ⟨_, List.getElem?_eq_getElem hlt⟩
        obtain ⟨y, hy⟩ : ∃ y, b[k]? = some y := ⟨_, List.getElem?_eq_getElem (by have := HAB.out; omega)⟩
        obtain ⟨ba, oa, rfl, hai⟩ := HRA.out (by omega)
        obtain ⟨bb, ob, rfl, hbi⟩ := HRB.out (by have := HAB.out; omega)
        have p0 := HB.out.drew.c (hai k x hx)
        have p1 := HB.out.drew.c (hbi k y hy)
        have hkI : (k : Int) < a.length := by omega
        have hkJ : (k : Int) < b.length := by have := HAB.out; omega
        have HNX : Hid (x = y → a.take (k + 1) = b.take (k + 1)) := fun e => by rw [List.take_add_one, List.take_add_one, hx, hy, HT.out, e]
        have HNO : Hid (¬ x = y → R = false) := fun e => by rw [HR.out]; exact decide_eq_false (fun h => e (by rw [h, hy] at hx; exact (Option.some.inj hx).symm))
        have HLT := Lib.hid hlt
        clear hx hy hai hbi hlt
        by_cases hxy : x = y
        · have ht := Lib.hid (HNX.out hxy)
          subst hxy
          have hxb : (x != x) = false := by simp
          go_wp2
          refine wp_region_noPanic ?_
          refine wp_region_held_drew (S := (fun V : World => V.cell? ⟨ba, oa + k, none⟩ = some (.int .i64 x) ∧ V.cell? ⟨bb, ob + k, none⟩ = some (.int .i64 x))) (by kernel_rfl) ?_ (fun hHr3_0 => ?_)
          · (try dsimp only); exact ⟨p0, p1⟩
          refine wpAnyH_take (i := 0) (oi := _) (v := ?vr3_1_0) rfl (by kernel_rfl) (by kernel_rfl) (by kernel_rfl) ?hqr3_1_0 (Or.inl ⟨by kernel_rfl, ?hyr3_1_0⟩) (by assumption) ?restr3_1_0
          case hqr3_1_0 => exact fun _ _ _ h => h
          case hyr3_1_0 => (intro w hSw; (try dsimp only at hSw); go_simp; try with_reducible rfl)
          try simp only [Act.put, List.getElem_toArray, List.getElem_cons_succ, List.getElem_cons_zero, List.setIfInBounds_toArray, List.set_cons_zero, List.set_cons_succ]
          refine wpAnyH_take (i := 1) (oi := _) (v := ?vr3_1_1) rfl (by kernel_rfl) (by kernel_rfl) (by kernel_rfl) ?hqr3_1_1 (Or.inl ⟨by kernel_rfl, ?hyr3_1_1⟩) (by assumption) ?restr3_1_1
          case hqr3_1_1 => exact fun _ _ _ h => h
          case hyr3_1_1 => (intro w hSw; (try dsimp only at hSw); go_simp; try with_reducible rfl)
          try simp only [Act.put, List.getElem_toArray, List.getElem_cons_succ, List.getElem_cons_zero, List.setIfInBounds_toArray, List.set_cons_zero, List.set_cons_succ]
          refine wpAnyH_take (i := 2) (oi := _) (v := ?vr3_1_2) rfl (by kernel_rfl) (by kernel_rfl) (by kernel_rfl) ?hqr3_1_2 (Or.inl ⟨by kernel_rfl, ?hyr3_1_2⟩) (by assumption) ?restr3_1_2
          case hqr3_1_2 => exact fun _ _ _ h => h
          case hyr3_1_2 => (intro w hSw; (try dsimp only at hSw); go_simp; try with_reducible rfl)
          try simp only [Act.put, List.getElem_toArray, List.getElem_cons_succ, List.getElem_cons_zero, List.setIfInBounds_toArray, List.set_cons_zero, List.set_cons_succ]
          refine wpAnyH_take (i := 3) (oi := _) (v := ?vr3_1_3) rfl (by kernel_rfl) (by kernel_rfl) (by kernel_rfl) ?hqr3_1_3 (Or.inl ⟨by kernel_rfl, ?hyr3_1_3⟩) (by assumption) ?restr3_1_3
          case hqr3_1_3 => exact fun _ _ _ h => h
          case hyr3_1_3 => (intro w hSw; (try dsimp only at hSw); go_simp; try with_reducible rfl)
          try simp only [Act.put, List.getElem_toArray, List.getElem_cons_succ, List.getElem_cons_zero, List.setIfInBounds_toArray, List.set_cons_zero, List.set_cons_succ]
          refine wpAnyH_take (i := 4) (oi := _) (v := ?vr3_1_4) rfl (by kernel_rfl) (by kernel_rfl) (by kernel_rfl) ?hqr3_1_4 (Or.inl ⟨by kernel_rfl, ?hyr3_1_4⟩) (by assumption) ?restr3_1_4
          case hqr3_1_4 => exact fun _ _ _ h => h
          case hyr3_1_4 => (intro w hSw; (try dsimp only at hSw); go_simp; try with_reducible rfl)
          try simp only [Act.put, List.getElem_toArray, List.getElem_cons_succ, List.getElem_cons_zero, List.setIfInBounds_toArray, List.set_cons_zero, List.set_cons_succ]
          refine wpAnyH_take (i := 5) (oi := _) (v := ?vr3_1_5) rfl (by kernel_rfl) (by kernel_rfl) (by kernel_rfl) ?hqr3_1_5 (Or.inl ⟨by kernel_rfl, ?hyr3_1_5⟩) (by assumption) ?restr3_1_5
          case hqr3_1_5 => exact fun _ _ _ h => h
          case hyr3_1_5 => (intro w hSw; (try dsimp only at hSw); go_simp; try with_reducible rfl)
          try simp only [Act.put, List.getElem_toArray, List.getElem_cons_succ, List.getElem_cons_zero, List.setIfInBounds_toArray, List.set_cons_zero, List.set_cons_succ]
          refine wpAnyH_take (i := 6) (oi := _) (v := ?vr3_1_6) rfl (by kernel_rfl) (by kernel_rfl) (by kernel_rfl) ?hqr3_1_6 (Or.inl ⟨by kernel_rfl, ?hyr3_1_6⟩) (by assumption) ?restr3_1_6
          case hqr3_1_6 => exact fun _ _ _ h => h
          case hyr3_1_6 => (intro w hSw; (try dsimp only at hSw); go_simp; try with_reducible rfl)
          try simp only [Act.put, List.getElem_toArray, List.getElem_cons_succ, List.getElem_cons_zero, List.setIfInBounds_toArray, List.set_cons_zero, List.set_cons_succ]
          refine wpAnyH_take (i := 7) (oi := _) (v := ?vr3_1_7) rfl (by kernel_rfl) (by kernel_rfl) (by kernel_rfl) ?hqr3_1_7 (Or.inl ⟨by kernel_rfl, ?hyr3_1_7⟩) (by assumption) ?restr3_1_7
          case hqr3_1_7 => exact fun _ _ _ h => h
          case hyr3_1_7 => (intro w hSw; (try dsimp only at hSw); go_simp; try with_reducible rfl)
          try simp only [Act.put, List.getElem_toArray, List.getElem_cons_succ, List.getElem_cons_zero, List.setIfInBounds_toArray, List.set_cons_zero, List.set_cons_succ]
          refine wpAnyH_take (i := 8) (oi := _) (v := ?vr3_1_8) rfl (by kernel_rfl) (by kernel_rfl) (by kernel_rfl) ?hqr3_1_8 (Or.inl ⟨by kernel_rfl, ?hyr3_1_8⟩) (by assumption) ?restr3_1_8
          case hqr3_1_8 => exact fun _ _ _ h => h
          case hyr3_1_8 => (intro w hSw; (try dsimp only at hSw); go_simp; try with_reducible rfl)
          try simp only [Act.put, List.getElem_toArray, List.getElem_cons_succ, List.getElem_cons_zero, List.setIfInBounds_toArray, List.set_cons_zero, List.set_cons_succ]
          refine wpAnyH_done (by kernel_rfl) ?_ _
          refine NoPanic.normal ?_
          go_wp2
          go_roundw
          case rel => exact ⟨k + 1, HLT.out, by go_num, HB.out.drew, ht.out⟩
          case measure => have := HLT.out; simp [intOf]; omega
        · have hf := HNO.out hxy
          have hxb : (x != y) = true := by rw [bne_iff_ne]; exact hxy
          go_wp2
          refine wp_region_noPanic ?_
          refine wp_region_held_drew (S := (fun V : World => V.cell? ⟨ba, oa + k, none⟩ = some (.int .i64 x) ∧ V.cell? ⟨bb, ob + k, none⟩ = some (.int .i64 y))) (by kernel_rfl) ?_ (fun hHr4_0 => ?_)
          · (try dsimp only); exact ⟨p0, p1⟩
          refine wpAnyH_take (i := 0) (oi := _) (v := ?vr4_1_0) rfl (by kernel_rfl) (by kernel_rfl) (by kernel_rfl) ?hqr4_1_0 (Or.inl ⟨by kernel_rfl, ?hyr4_1_0⟩) (by assumption) ?restr4_1_0
          case hqr4_1_0 => exact fun _ _ _ h => h
          case hyr4_1_0 => (intro w hSw; (try dsimp only at hSw); go_simp; try with_reducible rfl)
          try simp only [Act.put, List.getElem_toArray, List.getElem_cons_succ, List.getElem_cons_zero, List.setIfInBounds_toArray, List.set_cons_zero, List.set_cons_succ]
          refine wpAnyH_take (i := 1) (oi := _) (v := ?vr4_1_1) rfl (by kernel_rfl) (by kernel_rfl) (by kernel_rfl) ?hqr4_1_1 (Or.inl ⟨by kernel_rfl, ?hyr4_1_1⟩) (by assumption) ?restr4_1_1
          case hqr4_1_1 => exact fun _ _ _ h => h
          case hyr4_1_1 => (intro w hSw; (try dsimp only at hSw); go_simp; try with_reducible rfl)
          try simp only [Act.put, List.getElem_toArray, List.getElem_cons_succ, List.getElem_cons_zero, List.setIfInBounds_toArray, List.set_cons_zero, List.set_cons_succ]
          refine wpAnyH_take (i := 2) (oi := _) (v := ?vr4_1_2) rfl (by kernel_rfl) (by kernel_rfl) (by kernel_rfl) ?hqr4_1_2 (Or.inl ⟨by kernel_rfl, ?hyr4_1_2⟩) (by assumption) ?restr4_1_2
          case hqr4_1_2 => exact fun _ _ _ h => h
          case hyr4_1_2 => (intro w hSw; (try dsimp only at hSw); go_simp; try with_reducible rfl)
          try simp only [Act.put, List.getElem_toArray, List.getElem_cons_succ, List.getElem_cons_zero, List.setIfInBounds_toArray, List.set_cons_zero, List.set_cons_succ]
          refine wpAnyH_take (i := 3) (oi := _) (v := ?vr4_1_3) rfl (by kernel_rfl) (by kernel_rfl) (by kernel_rfl) ?hqr4_1_3 (Or.inl ⟨by kernel_rfl, ?hyr4_1_3⟩) (by assumption) ?restr4_1_3
          case hqr4_1_3 => exact fun _ _ _ h => h
          case hyr4_1_3 => (intro w hSw; (try dsimp only at hSw); go_simp; try with_reducible rfl)
          try simp only [Act.put, List.getElem_toArray, List.getElem_cons_succ, List.getElem_cons_zero, List.setIfInBounds_toArray, List.set_cons_zero, List.set_cons_succ]
          refine wpAnyH_take (i := 4) (oi := _) (v := ?vr4_1_4) rfl (by kernel_rfl) (by kernel_rfl) (by kernel_rfl) ?hqr4_1_4 (Or.inl ⟨by kernel_rfl, ?hyr4_1_4⟩) (by assumption) ?restr4_1_4
          case hqr4_1_4 => exact fun _ _ _ h => h
          case hyr4_1_4 => (intro w hSw; (try dsimp only at hSw); go_simp; try with_reducible rfl)
          try simp only [Act.put, List.getElem_toArray, List.getElem_cons_succ, List.getElem_cons_zero, List.setIfInBounds_toArray, List.set_cons_zero, List.set_cons_succ]
          refine wpAnyH_take (i := 5) (oi := _) (v := ?vr4_1_5) rfl (by kernel_rfl) (by kernel_rfl) (by kernel_rfl) ?hqr4_1_5 (Or.inl ⟨by kernel_rfl, ?hyr4_1_5⟩) (by assumption) ?restr4_1_5
          case hqr4_1_5 => exact fun _ _ _ h => h
          case hyr4_1_5 => (intro w hSw; (try dsimp only at hSw); go_simp; try with_reducible rfl)
          try simp only [Act.put, List.getElem_toArray, List.getElem_cons_succ, List.getElem_cons_zero, List.setIfInBounds_toArray, List.set_cons_zero, List.set_cons_succ]
          refine wpAnyH_take (i := 6) (oi := _) (v := ?vr4_1_6) rfl (by kernel_rfl) (by kernel_rfl) (by kernel_rfl) ?hqr4_1_6 (Or.inl ⟨by kernel_rfl, ?hyr4_1_6⟩) (by assumption) ?restr4_1_6
          case hqr4_1_6 => exact fun _ _ _ h => h
          case hyr4_1_6 => (intro w hSw; (try dsimp only at hSw); go_simp; try with_reducible rfl)
          try simp only [Act.put, List.getElem_toArray, List.getElem_cons_succ, List.getElem_cons_zero, List.setIfInBounds_toArray, List.set_cons_zero, List.set_cons_succ]
          refine wpAnyH_take (i := 7) (oi := _) (v := ?vr4_1_7) rfl (by kernel_rfl) (by kernel_rfl) (by kernel_rfl) ?hqr4_1_7 (Or.inl ⟨by kernel_rfl, ?hyr4_1_7⟩) (by assumption) ?restr4_1_7
          case hqr4_1_7 => exact fun _ _ _ h => h
          case hyr4_1_7 => (intro w hSw; (try dsimp only at hSw); go_simp; try with_reducible rfl)
          try simp only [Act.put, List.getElem_toArray, List.getElem_cons_succ, List.getElem_cons_zero, List.setIfInBounds_toArray, List.set_cons_zero, List.set_cons_succ]
          refine wpAnyH_take (i := 8) (oi := _) (v := ?vr4_1_8) rfl (by kernel_rfl) (by kernel_rfl) (by kernel_rfl) ?hqr4_1_8 (Or.inl ⟨by kernel_rfl, ?hyr4_1_8⟩) (by assumption) ?restr4_1_8
          case hqr4_1_8 => exact fun _ _ _ h => h
          case hyr4_1_8 => (intro w hSw; (try dsimp only at hSw); go_simp; try with_reducible rfl)
          try simp only [Act.put, List.getElem_toArray, List.getElem_cons_succ, List.getElem_cons_zero, List.setIfInBounds_toArray, List.set_cons_zero, List.set_cons_succ]
          refine wpAnyH_done (by kernel_rfl) ?_ _
          refine NoPanic.normal ?_
          go_wp2
          go_ret
          exact ⟨by first | rfl | (rw [hf]; rfl), HB.out.drew⟩
      · obtain rfl : k = a.length := by omega
        have ht : R = true := by
          rw [HR.out]
          have := HT.out
          rw [List.take_length, HAB.out, List.take_length] at this
          exact decide_eq_true this
        clear HT hlt hk
        go_wp2
        go_ret
        exact ⟨by first | rfl | (rw [ht]; rfl), HB.out⟩
  · have hf : R = false := by rw [HR.out]; exact decide_eq_false (fun e => hab (by rw [e]))
    have habI : ((a.length : Int) != b.length) = true := by rw [bne_iff_ne]; omega
    go_enter Tryz.func33, Tryz.ntmps33
    go_wp2
    go_ret
    exact ⟨by first | rfl | (rw [hf]; rfl), by (repeat (first | exact Below.refl _ _ | assumption | exact Bel.refl _ | refine Bel.alloc ?_ _ | refine Bel.drew ?_ | refine Bel.drewN ?_ _ | refine Bel.then_ ?_ (by assumption) | refine Bel.setCell ?_ (by first | (simp; done) | (simp; omega)) _))⟩
end Go.Proofs.YtkklmflclmgjeaaGreatDoor

/-
  Schema: whether lists of lists of numbers are the same.
-/
set_option linter.unusedVariables false
set_option linter.unusedSimpArgs false
set_option linter.unusedVariables false
set_option linter.unusedSimpArgs false
namespace Go.Proofs.YtkklmflclmgjeaaGreatDoor
open Go.RowKit Go.Shelf Go.Lib
attribute [local go_sem] Oper.semAt_some

set_option maxRecDepth 100000 in
set_option maxHeartbeats 4000000 in
theorem slEqualFuncInts_any (va vb : Value) (a b : List (List Int)) (w : World) (ha : ListsAt w va a) (hb : ListsAt w vb b) : Calls Tryz.prog 107 #[va, vb, .func (.func 62) #[] #[]] w fun e w' => e = .returned (.bool (decide (a = b))) ∧ Bel w w' := by
  have eg : ∀ args w, (callFunc 62 args).run Tryz.prog w = .ok (.enter 62 args) w := enters_of Tryz.func62 (by kernel_rfl) rfl
  obtain ⟨R, hR⟩ : ∃ R, R = decide (a = b) := ⟨_, rfl⟩
  rw [← hR]
  have HR := Lib.hid hR
  clear hR
  obtain ⟨Aa, ca, rfl, hca, hma, hra⟩ := ha
  obtain ⟨Ab, cb, rfl, hcb, hmb, hrb⟩ := hb
  have haI : (a.length : Int) ≤ 9223372036854775807 := by unfold maxLen at hma; omega
  have hbI : (b.length : Int) ≤ 9223372036854775807 := by unfold maxLen at hmb; omega
  have HRA := Lib.hid hra
  have HRB := Lib.hid hrb
  clear hra hrb hma hmb hca hcb
  by_cases hab : a.length = b.length
  · have habI : ((a.length : Int) != b.length) = false := by rw [bne_eq_false_iff_eq]; omega
    have HAB := Lib.hid hab
    clear hab
    go_enter Tryz.func107, Tryz.ntmps107
    go_wp2
    go_loopw [17] (fun i wr => ∃ k : Nat, k ≤ a.length ∧ i = .int .i64 k ∧ Hid (Bel w wr) ∧ Hid (a.take k = b.take k)) (fun i _ => a.length - (intOf i).toNat)
    case atStart => exact ⟨0, Nat.zero_le _, rfl, Bel.refl w, by show _ = _; simp⟩
    case round =>
      obtain ⟨k, hk, rfl, HB, HT⟩ := hrel
      by_cases hlt : k < a.length
      · obtain ⟨x, hx⟩ : ∃ x, a[k]? = some x := ⟨_, List.getElem?_eq_getElem hlt⟩
        obtain ⟨y, hy⟩ : ∃ y, b[k]? = some y := ⟨_, List.getElem?_eq_getElem (by have := HAB.out; omega)⟩
        obtain ⟨ba, oa, rfl, hai⟩ := HRA.out (by omega)
        obtain ⟨bb, ob, rfl, hbi⟩ := HRB.out (by have := HAB.out; omega)
        obtain ⟨u, hu0, hu1⟩ := hai k x hx
        obtain ⟨v, hv0, hv1⟩ := hbi k y hy
        have p0 := HB.out.c hu0
        have p1 := HB.out.c hv0
        have hkI : (k : Int) < a.length := by omega
        have hkJ : (k : Int) < b.length := by have := HAB.out; omega
        have HNX : Hid (x = y → a.take (k + 1) = b.take (k + 1)) := fun e => by rw [List.take_add_one, List.take_add_one, hx, hy, HT.out, e]
        have HNO : Hid (¬ x = y → R = false) := fun e => by rw [HR.out]; exact decide_eq_false (fun h => e (by rw [h, hy] at hx; exact (Option.some.inj hx).symm))
        have HEQ := Lib.hid (slEqualInt_any u v x y wr (hu1.bel HB.out) (hv1.bel HB.out))
        have HLT := Lib.hid hlt
        clear hx hy hai hbi hlt hu0 hu1 hv0 hv1
        by_cases hxy : x = y
        · have ht := Lib.hid (HNX.out hxy)
          rw [decide_eq_true hxy] at HEQ
          clear hxy
          go_wp2_with (go_at_fn 62; refine HEQ.out.mono ?_; rintro e w4 ⟨rfl, hb4⟩)
          go_roundw
          case rel => exact ⟨k + 1, HLT.out, by go_num, HB.out.then_ hb4, ht.out⟩
          case measure => have := HLT.out; simp [intOf]; omega
        · have hf := HNO.out hxy
          rw [decide_eq_false hxy] at HEQ
          clear hxy
          go_wp2_with (go_at_fn 62; refine HEQ.out.mono ?_; rintro e w4 ⟨rfl, hb4⟩)
          go_ret
          exact ⟨by first | rfl | (rw [hf]; rfl), HB.out.then_ hb4⟩
      · obtain rfl : k = a.length := by omega
        have ht : R = true := by
          rw [HR.out]
          have := HT.out
          rw [List.take_length, HAB.out, List.take_length] at this
          exact decide_eq_true this
        clear HT hlt hk
        go_wp2
        go_ret
        exact ⟨by first | rfl | (rw [ht]; rfl), HB.out⟩
  · have hf : R = false := by rw [HR.out]; exact decide_eq_false (fun e => hab (by rw [e]))
    have habI : ((a.length : Int) != b.length) = true := by rw [bne_iff_ne]; omega
    go_enter Tryz.func107, Tryz.ntmps107
    go_wp2
    go_ret
    exact ⟨by first | rfl | (rw [hf]; rfl), by (repeat (first | exact Below.refl _ _ | assumption | exact Bel.refl _ | refine Bel.alloc ?_ _ | refine Bel.drew ?_ | refine Bel.drewN ?_ _ | refine Bel.then_ ?_ (by assumption) | refine Bel.setCell ?_ (by first | (simp; done) | (simp; omega)) _))⟩
end Go.Proofs.YtkklmflclmgjeaaGreatDoor

/-
  Schema: whether lists of columns are the same.
-/
set_option linter.unusedVariables false
set_option linter.unusedSimpArgs false
set_option linter.unusedVariables false
set_option linter.unusedSimpArgs false
namespace Go.Proofs.YtkklmflclmgjeaaGreatDoor
open Go.RowKit Go.Shelf Go.Lib
attribute [local go_sem] Oper.semAt_some

theorem col_ne (x y : Col) (w : World) : (binOp .neq 44 x.v y.v).run Tryz.prog w = .ok (.bool (decide (x ≠ y))) w := by
  obtain ⟨a, b, c, d⟩ := x
  obtain ⟨a', b', c', d'⟩ := y
  unfold Col.v
  dsimp only
  go_simp
  simp only [bytes_eq_iff]
  by_cases h1 : a = a' <;> by_cases h2 : b = b' <;> by_cases h3 : c = c' <;> cases d <;> cases d' <;> simp [h1, h2, h3]
set_option maxRecDepth 100000 in
set_option maxHeartbeats 4000000 in
theorem slEqualCol_any (va vb : Value) (a b : List Col) (w : World) (ha : ColsAt w va a) (hb : ColsAt w vb b) : Calls Tryz.prog 61 #[va, vb] w fun e w' => e = .returned (.bool (decide (a = b))) ∧ Bel w w' := by
  obtain ⟨R, hR⟩ : ∃ R, R = decide (a = b) := ⟨_, rfl⟩
  rw [← hR]
  have HR := Lib.hid hR
  clear hR
  obtain ⟨Aa, ca, rfl, hca, hma, hra⟩ := ha
  obtain ⟨Ab, cb, rfl, hcb, hmb, hrb⟩ := hb
  have haI : (a.length : Int) ≤ 9223372036854775807 := by unfold maxLen at hma; omega
  have hbI : (b.length : Int) ≤ 9223372036854775807 := by unfold maxLen at hmb; omega
  have HRA := Lib.hid hra
  have HRB := Lib.hid hrb
  clear hra hrb hma hmb hca hcb
  by_cases hab : a.length = b.length
  · have habI : ((a.length : Int) != b.length) = false := by rw [bne_eq_false_iff_eq]; omega
    have HAB := Lib.hid hab
    clear hab
    go_enter Tryz.func61, Tryz.ntmps61
    go_wp2
    go_loopw [13] (fun i wr => ∃ k : Nat, k ≤ a.length ∧ i = .int .i64 k ∧ Hid (Bel w wr) ∧ Hid (a.take k = b.take k)) (fun i _ => a.length - (intOf i).toNat)
    case atStart => exact ⟨0, Nat.zero_le _, rfl, Bel.refl w, by show _ = _; simp⟩
    case round =>
      obtain ⟨k, hk, rfl, HB, HT⟩ := hrel
      by_cases hlt : k < a.length
      · obtain ⟨x, hx⟩ : ∃ x, a[k]? = some x := ⟨_, List.getElem?_eq_getElem hlt⟩
        obtain ⟨y, hy⟩ : ∃ y, b[k]? = some y := ⟨_, List.getElem?_eq_getElem (by have := HAB.out; omega)⟩
        obtain ⟨ba, oa, rfl, hai⟩ := HRA.out (by omega)
        obtain ⟨bb, ob, rfl, hbi⟩ := HRB.out (by have := HAB.out; omega)
        have p0 := HB.out.drew.c (hai k x hx).1
        have r0 := HB.out.drew.c (hbi k y hy).1
        have p1 := HB.out.drew.c (hai k x hx).2.1
        have r1 := HB.out.drew.c (hbi k y hy).2.1
        have p2 := HB.out.drew.c (hai k x hx).2.2.1
        have r2 := HB.out.drew.c (hbi k y hy).2.2.1
        have p3 := HB.out.drew.c (hai k x hx).2.2.2
        have r3 := HB.out.drew.c (hbi k y hy).2.2.2
        have hkI : (k : Int) < a.length := by omega
        have hkJ : (k : Int) < b.length := by have := HAB.out; omega
        have HNX : Hid (x = y → a.take (k + 1) = b.take (k + 1)) := fun e => by rw [List.take_add_one, List.take_add_one, hx, hy, HT.out, e]
        have HNO : Hid (¬ x = y → R = false) := fun e => by rw [HR.out]; exact decide_eq_false (fun h => e (by rw [h, hy] at hx; exact (Option.some.inj hx).symm))
        have HLT := Lib.hid hlt
        clear hx hy hai hbi hlt
        by_cases hxy : x = y
        · have ht := Lib.hid (HNX.out hxy)
          subst hxy
          have hne := fun W => col_ne x x W
          rw [decide_eq_false (by simp)] at hne
          unfold Col.v at hne
          go_wp2
          refine wp_region_noPanic ?_
          refine wp_region_held_drew (S := (fun V : World => V.cell? ⟨ba, oa + k * 4, none⟩ = some (.string x.name) ∧ V.cell? ⟨ba, oa + k * 4 + 1, none⟩ = some (.int .i64 x.t) ∧ V.cell? ⟨ba, oa + k * 4 + 2, none⟩ = some (.int .i64 x.z) ∧ V.cell? ⟨ba, oa + k * 4 + 3, none⟩ = some (.bool x.null) ∧ V.cell? ⟨bb, ob + k * 4, none⟩ = some (.string x.name) ∧ V.cell? ⟨bb, ob + k * 4 + 1, none⟩ = some (.int .i64 x.t) ∧ V.cell? ⟨bb, ob + k * 4 + 2, none⟩ = some (.int .i64 x.z) ∧ V.cell? ⟨bb, ob + k * 4 + 3, none⟩ = some (.bool x.null))) (by kernel_rfl) ?_ (fun hHr1_0 => ?_)
          · (try dsimp only); exact ⟨p0, p1, p2, p3, r0, r1, r2, r3⟩
          refine wpAnyH_take (i := 0) (oi := _) (v := ?vr1_1_0) rfl (by kernel_rfl) (by kernel_rfl) (by kernel_rfl) ?hqr1_1_0 (Or.inl ⟨by kernel_rfl, ?hyr1_1_0⟩) (by assumption) ?restr1_1_0
          case hqr1_1_0 => exact fun _ _ _ h => h
          case hyr1_1_0 => (intro w hSw; (try dsimp only at hSw); go_simp; try with_reducible rfl)
          try simp only [Act.put, List.getElem_toArray, List.getElem_cons_succ, List.getElem_cons_zero, List.setIfInBounds_toArray, List.set_cons_zero, List.set_cons_succ]
          refine wpAnyH_take (i := 1) (oi := _) (v := ?vr1_1_1) rfl (by kernel_rfl) (by kernel_rfl) (by kernel_rfl) ?hqr1_1_1 (Or.inl ⟨by kernel_rfl, ?hyr1_1_1⟩) (by assumption) ?restr1_1_1
          case hqr1_1_1 => exact fun _ _ _ h => h
          case hyr1_1_1 => (intro w hSw; (try dsimp only at hSw); go_simp; try with_reducible rfl)
          try simp only [Act.put, List.getElem_toArray, List.getElem_cons_succ, List.getElem_cons_zero, List.setIfInBounds_toArray, List.set_cons_zero, List.set_cons_succ]
          refine wpAnyH_take (i := 2) (oi := _) (v := ?vr1_1_2) rfl (by kernel_rfl) (by kernel_rfl) (by kernel_rfl) ?hqr1_1_2 (Or.inl ⟨by kernel_rfl, ?hyr1_1_2⟩) (by assumption) ?restr1_1_2
          case hqr1_1_2 => exact fun _ _ _ h => h
          case hyr1_1_2 => (intro w hSw; (try dsimp only at hSw); go_simp; try with_reducible rfl)
          try simp only [Act.put, List.getElem_toArray, List.getElem_cons_succ, List.getElem_cons_zero, List.setIfInBounds_toArray, List.set_cons_zero, List.set_cons_succ]
          refine wpAnyH_take (i := 3) (oi := _) (v := ?vr1_1_3) rfl (by kernel_rfl) (by kernel_rfl) (by kernel_rfl) ?hqr1_1_3 (Or.inl ⟨by kernel_rfl, ?hyr1_1_3⟩) (by assumption) ?restr1_1_3
          case hqr1_1_3 => exact fun _ _ _ h => h
          case hyr1_1_3 => (intro w hSw; (try dsimp only at hSw); go_simp; try with_reducible rfl)
          try simp only [Act.put, List.getElem_toArray, List.getElem_cons_succ, List.getElem_cons_zero, List.setIfInBounds_toArray, List.set_cons_zero, List.set_cons_succ]
          refine wpAnyH_take (i := 4) (oi := _) (v := ?vr1_1_4) rfl (by kernel_rfl) (by kernel_rfl) (by kernel_rfl) ?hqr1_1_4 (Or.inl ⟨by kernel_rfl, ?hyr1_1_4⟩) (by assumption) ?restr1_1_4
          case hqr1_1_4 => exact fun _ _ _ h => h
          case hyr1_1_4 => (intro w hSw; (try dsimp only at hSw); go_simp; try with_reducible rfl)
          try simp only [Act.put, List.getElem_toArray, List.getElem_cons_succ, List.getElem_cons_zero, List.setIfInBounds_toArray, List.set_cons_zero, List.set_cons_succ]
          refine wpAnyH_take (i := 5) (oi := _) (v := ?vr1_1_5) rfl (by kernel_rfl) (by kernel_rfl) (by kernel_rfl) ?hqr1_1_5 (Or.inl ⟨by kernel_rfl, ?hyr1_1_5⟩) (by assumption) ?restr1_1_5
          case hqr1_1_5 => exact fun _ _ _ h => h
          case hyr1_1_5 => (intro w hSw; (try dsimp only at hSw); go_simp; try with_reducible rfl)
          try simp only [Act.put, List.getElem_toArray, List.getElem_cons_succ, List.getElem_cons_zero, List.setIfInBounds_toArray, List.set_cons_zero, List.set_cons_succ]
          refine wpAnyH_take (i := 6) (oi := _) (v := ?vr1_1_6) rfl (by kernel_rfl) (by kernel_rfl) (by kernel_rfl) ?hqr1_1_6 (Or.inl ⟨by kernel_rfl, ?hyr1_1_6⟩) (by assumption) ?restr1_1_6
          case hqr1_1_6 => exact fun _ _ _ h => h
          case hyr1_1_6 => (intro w hSw; (try dsimp only at hSw); go_simp; try with_reducible rfl)
          try simp only [Act.put, List.getElem_toArray, List.getElem_cons_succ, List.getElem_cons_zero, List.setIfInBounds_toArray, List.set_cons_zero, List.set_cons_succ]
          refine wpAnyH_take (i := 7) (oi := _) (v := ?vr1_1_7) rfl (by kernel_rfl) (by kernel_rfl) (by kernel_rfl) ?hqr1_1_7 (Or.inl ⟨by kernel_rfl, ?hyr1_1_7⟩) (by assumption) ?restr1_1_7
          case hqr1_1_7 => exact fun _ _ _ h => h
          case hyr1_1_7 => (intro w hSw; (try dsimp only at hSw); go_simp; try with_reducible rfl)
          try simp only [Act.put, List.getElem_toArray, List.getElem_cons_succ, List.getElem_cons_zero, List.setIfInBounds_toArray, List.set_cons_zero, List.set_cons_succ]
          refine wpAnyH_take (i := 8) (oi := _) (v := ?vr1_1_8) rfl (by kernel_rfl) (by kernel_rfl) (by kernel_rfl) ?hqr1_1_8 (Or.inl ⟨by kernel_rfl, ?hyr1_1_8⟩) (by assumption) ?restr1_1_8
          case hqr1_1_8 => exact fun _ _ _ h => h
          case hyr1_1_8 => (intro w hSw; (try dsimp only at hSw); go_simp; try with_reducible rfl)
          try simp only [Act.put, List.getElem_toArray, List.getElem_cons_succ, List.getElem_cons_zero, List.setIfInBounds_toArray, List.set_cons_zero, List.set_cons_succ]
          refine wpAnyH_done (by kernel_rfl) ?_ _
          refine NoPanic.normal ?_
          go_wp2
          go_roundw
          case rel => exact ⟨k + 1, HLT.out, by go_num, HB.out.drew, ht.out⟩
          case measure => have := HLT.out; simp [intOf]; omega
        · have hf := HNO.out hxy
          have hne := fun W => col_ne x y W
          rw [decide_eq_true hxy] at hne
          unfold Col.v at hne
          go_wp2
          refine wp_region_noPanic ?_
          refine wp_region_held_drew (S := (fun V : World => V.cell? ⟨ba, oa + k * 4, none⟩ = some (.string x.name) ∧ V.cell? ⟨ba, oa + k * 4 + 1, none⟩ = some (.int .i64 x.t) ∧ V.cell? ⟨ba, oa + k * 4 + 2, none⟩ = some (.int .i64 x.z) ∧ V.cell? ⟨ba, oa + k * 4 + 3, none⟩ = some (.bool x.null) ∧ V.cell? ⟨bb, ob + k * 4, none⟩ = some (.string y.name) ∧ V.cell? ⟨bb, ob + k * 4 + 1, none⟩ = some (.int .i64 y.t) ∧ V.cell? ⟨bb, ob + k * 4 + 2, none⟩ = some (.int .i64 y.z) ∧ V.cell? ⟨bb, ob + k * 4 + 3, none⟩ = some (.bool y.null))) (by kernel_rfl) ?_ (fun hHr2_0 => ?_)
          · (try dsimp only); exact ⟨p0, p1, p2, p3, r0, r1, r2, r3⟩
          refine wpAnyH_take (i := 0) (oi := _) (v := ?vr2_1_0) rfl (by kernel_rfl) (by kernel_rfl) (by kernel_rfl) ?hqr2_1_0 (Or.inl ⟨by kernel_rfl, ?hyr2_1_0⟩) (by assumption) ?restr2_1_0
          case hqr2_1_0 => exact fun _ _ _ h => h
          case hyr2_1_0 => (intro w hSw; (try dsimp only at hSw); go_simp; try with_reducible rfl)
          try simp only [Act.put, List.getElem_toArray, List.getElem_cons_succ, List.getElem_cons_zero, List.setIfInBounds_toArray, List.set_cons_zero, List.set_cons_succ]
          refine wpAnyH_take (i := 1) (oi := _) (v := ?vr2_1_1) rfl (by kernel_rfl) (by kernel_rfl) (by kernel_rfl) ?hqr2_1_1 (Or.inl ⟨by kernel_rfl, ?hyr2_1_1⟩) (by assumption) ?restr2_1_1
          case hqr2_1_1 => exact fun _ _ _ h => h
          case hyr2_1_1 => (intro w hSw; (try dsimp only at hSw); go_simp; try with_reducible rfl)
          try simp only [Act.put, List.getElem_toArray, List.getElem_cons_succ, List.getElem_cons_zero, List.setIfInBounds_toArray, List.set_cons_zero, List.set_cons_succ]
          refine wpAnyH_take (i := 2) (oi := _) (v := ?vr2_1_2) rfl (by kernel_rfl) (by kernel_rfl) (by kernel_rfl) ?hqr2_1_2 (Or.inl ⟨by kernel_rfl, ?hyr2_1_2⟩) (by assumption) ?restr2_1_2
          case hqr2_1_2 => exact fun _ _ _ h => h
          case hyr2_1_2 => (intro w hSw; (try dsimp only at hSw); go_simp; try with_reducible rfl)
          try simp only [Act.put, List.getElem_toArray, List.getElem_cons_succ, List.getElem_cons_zero, List.setIfInBounds_toArray, List.set_cons_zero, List.set_cons_succ]
          refine wpAnyH_take (i := 3) (oi := _) (v := ?vr2_1_3) rfl (by kernel_rfl) (by kernel_rfl) (by kernel_rfl) ?hqr2_1_3 (Or.inl ⟨by kernel_rfl, ?hyr2_1_3⟩) (by assumption) ?restr2_1_3
          case hqr2_1_3 => exact fun _ _ _ h => h
          case hyr2_1_3 => (intro w hSw; (try dsimp only at hSw); go_simp; try with_reducible rfl)
          try simp only [Act.put, List.getElem_toArray, List.getElem_cons_succ, List.getElem_cons_zero, List.setIfInBounds_toArray, List.set_cons_zero, List.set_cons_succ]
          refine wpAnyH_take (i := 4) (oi := _) (v := ?vr2_1_4) rfl (by kernel_rfl) (by kernel_rfl) (by kernel_rfl) ?hqr2_1_4 (Or.inl ⟨by kernel_rfl, ?hyr2_1_4⟩) (by assumption) ?restr2_1_4
          case hqr2_1_4 => exact fun _ _ _ h => h
          case hyr2_1_4 => (intro w hSw; (try dsimp only at hSw); go_simp; try with_reducible rfl)
          try simp only [Act.put, List.getElem_toArray, List.getElem_cons_succ, List.getElem_cons_zero, List.setIfInBounds_toArray, List.set_cons_zero, List.set_cons_succ]
          refine wpAnyH_take (i := 5) (oi := _) (v := ?vr2_1_5) rfl (by kernel_rfl) (by kernel_rfl) (by kernel_rfl) ?hqr2_1_5 (Or.inl ⟨by kernel_rfl, ?hyr2_1_5⟩) (by assumption) ?restr2_1_5
          case hqr2_1_5 => exact fun _ _ _ h => h
          case hyr2_1_5 => (intro w hSw; (try dsimp only at hSw); go_simp; try with_reducible rfl)
          try simp only [Act.put, List.getElem_toArray, List.getElem_cons_succ, List.getElem_cons_zero, List.setIfInBounds_toArray, List.set_cons_zero, List.set_cons_succ]
          refine wpAnyH_take (i := 6) (oi := _) (v := ?vr2_1_6) rfl (by kernel_rfl) (by kernel_rfl) (by kernel_rfl) ?hqr2_1_6 (Or.inl ⟨by kernel_rfl, ?hyr2_1_6⟩) (by assumption) ?restr2_1_6
          case hqr2_1_6 => exact fun _ _ _ h => h
          case hyr2_1_6 => (intro w hSw; (try dsimp only at hSw); go_simp; try with_reducible rfl)
          try simp only [Act.put, List.getElem_toArray, List.getElem_cons_succ, List.getElem_cons_zero, List.setIfInBounds_toArray, List.set_cons_zero, List.set_cons_succ]
          refine wpAnyH_take (i := 7) (oi := _) (v := ?vr2_1_7) rfl (by kernel_rfl) (by kernel_rfl) (by kernel_rfl) ?hqr2_1_7 (Or.inl ⟨by kernel_rfl, ?hyr2_1_7⟩) (by assumption) ?restr2_1_7
          case hqr2_1_7 => exact fun _ _ _ h => h
          case hyr2_1_7 => (intro w hSw; (try dsimp only at hSw); go_simp; try with_reducible rfl)
          try simp only [Act.put, List.getElem_toArray, List.getElem_cons_succ, List.getElem_cons_zero, List.setIfInBounds_toArray, List.set_cons_zero, List.set_cons_succ]
          refine wpAnyH_take (i := 8) (oi := _) (v := ?vr2_1_8) rfl (by kernel_rfl) (by kernel_rfl) (by kernel_rfl) ?hqr2_1_8 (Or.inl ⟨by kernel_rfl, ?hyr2_1_8⟩) (by assumption) ?restr2_1_8
          case hqr2_1_8 => exact fun _ _ _ h => h
          case hyr2_1_8 => (intro w hSw; (try dsimp only at hSw); go_simp; try with_reducible rfl)
          try simp only [Act.put, List.getElem_toArray, List.getElem_cons_succ, List.getElem_cons_zero, List.setIfInBounds_toArray, List.set_cons_zero, List.set_cons_succ]
          refine wpAnyH_done (by kernel_rfl) ?_ _
          refine NoPanic.normal ?_
          go_wp2
          go_ret
          exact ⟨by first | rfl | (rw [hf]; rfl), HB.out.drew⟩
      · obtain rfl : k = a.length := by omega
        have ht : R = true := by
          rw [HR.out]
          have := HT.out
          rw [List.take_length, HAB.out, List.take_length] at this
          exact decide_eq_true this
        clear HT hlt hk
        go_wp2
        go_ret
        exact ⟨by first | rfl | (rw [ht]; rfl), HB.out⟩
  · have hf : R = false := by rw [HR.out]; exact decide_eq_false (fun e => hab (by rw [e]))
    have habI : ((a.length : Int) != b.length) = true := by rw [bne_iff_ne]; omega
    go_enter Tryz.func61, Tryz.ntmps61
    go_wp2
    go_ret
    exact ⟨by first | rfl | (rw [hf]; rfl), by (repeat (first | exact Below.refl _ _ | assumption | exact Bel.refl _ | refine Bel.alloc ?_ _ | refine Bel.drew ?_ | refine Bel.drewN ?_ _ | refine Bel.then_ ?_ (by assumption) | refine Bel.setCell ?_ (by first | (simp; done) | (simp; omega)) _))⟩
end Go.Proofs.YtkklmflclmgjeaaGreatDoor

/-
  Schema: Same, by the code and by the document.
-/
set_option linter.unusedVariables false
set_option linter.unusedSimpArgs false
set_option linter.unusedVariables false
set_option linter.unusedSimpArgs false
namespace Go.Proofs.YtkklmflclmgjeaaGreatDoor
open Go.RowKit Go.Shelf Go.Lib
attribute [local go_sem] Oper.semAt_some

theorem scsame_any (va vb : Value) (a b : List (List Int)) (w : World) (ha : ListsAt w va a) (hb : ListsAt w vb b) : Calls Tryz.prog 63 #[va, vb, .func (.func 62) #[] #[]] w fun e w' => e = .returned (.bool (decide (a = b))) ∧ Bel w w' := by
  have H := Lib.hid (slEqualFuncInts_any va vb a b w ha hb)
  clear ha hb
  generalize decide (a = b) = R at *
  go_enter Tryz.func63, Tryz.ntmps63
  go_wp2_with (go_at_call 107; refine H.out.mono ?_; rintro e w4 ⟨rfl, hb4⟩)
  go_ret
  exact ⟨rfl, hb4⟩
def sameS (a b : List Col) (ka kb : List Int) (ua ub : List (List Int)) : Bool := decide (a = b) && (decide (ka = kb) && decide (ua = ub))
set_option maxRecDepth 100000 in
set_option maxHeartbeats 4000000 in
theorem scSame_any (va vka vua vb vkb vub : Value) (a b : List Col) (ka kb : List Int) (ua ub : List (List Int)) (w : World) (ha : ColsAt w va a) (hka : IntsAt w vka ka) (hua : ListsAt w vua ua) (hb : ColsAt w vb b) (hkb : IntsAt w vkb kb) (hub : ListsAt w vub ub) :
    Calls Tryz.prog 26 #[.agg #[va, vka, vua], .agg #[vb, vkb, vub]] w fun e w' => e = .returned (.bool (sameS a b ka kb ua ub)) ∧ Bel w w' := by
  have HA := Lib.hid (fun V (h : Bel w V) => slEqualCol_any va vb a b V (ha.bel h) (hb.bel h))
  have HK := Lib.hid (fun V (h : Bel w V) => slEqualInt_any vka vkb ka kb V (hka.bel h) (hkb.bel h))
  have HU := Lib.hid (fun V (h : Bel w V) => scsame_any vua vub ua ub V (hua.bel h) (hub.bel h))
  have hb0 : Bel w ((w.alloc (.cells #[va, vka, vua] 26)).alloc (.cells #[vb, vkb, vub] 26)) := ((Bel.refl w).alloc _).alloc _
  have HCL : Hid (∀ V, Bel ((w.alloc (.cells #[va, vka, vua] 26)).alloc (.cells #[vb, vkb, vub] 26)) V → V.cell? ⟨w.heap.size, 1, none⟩ = some vka ∧ V.cell? ⟨w.heap.size, 2, none⟩ = some vua ∧ V.cell? ⟨w.heap.size + 1, 1, none⟩ = some vkb ∧ V.cell? ⟨w.heap.size + 1, 2, none⟩ = some vub) :=
    fun V h => ⟨h.c (by go_simp), h.c (by go_simp), h.c (by go_simp), h.c (by go_simp)⟩
  unfold sameS
  clear ha hka hua hb hkb hub
  generalize decide (a = b) = ra at *
  generalize decide (ka = kb) = rk at *
  generalize decide (ua = ub) = ru at *
  cases ra
  · go_enter Tryz.func26, Tryz.ntmps26
    go_wp2_with (go_at_call 61; refine (HA.out _ hb0).mono ?_; rintro e w4 ⟨rfl, hb4⟩)
    go_ret
    exact ⟨rfl, hb0.then_ hb4⟩
  · cases rk
    · go_enter Tryz.func26, Tryz.ntmps26
      go_wp2_with (go_at_call 61; refine (HA.out _ hb0).mono ?_; rintro e w4 ⟨rfl, hb4⟩; obtain ⟨c1, c2, c3, c4⟩ := HCL.out _ hb4; have hb5 := hb0.then_ hb4)
      go_wp2_with (go_at_call 62; refine (HK.out _ hb5).mono ?_; rintro e w6 ⟨rfl, hb6⟩)
      go_ret
      exact ⟨rfl, hb5.then_ hb6⟩
    · go_enter Tryz.func26, Tryz.ntmps26
      go_wp2_with (go_at_call 61; refine (HA.out _ hb0).mono ?_; rintro e w4 ⟨rfl, hb4⟩; obtain ⟨c1, c2, c3, c4⟩ := HCL.out _ hb4; have hb5 := hb0.then_ hb4)
      go_wp2_with (go_at_call 62; refine (HK.out _ hb5).mono ?_; rintro e w6 ⟨rfl, hb6⟩; obtain ⟨d1, d2, d3, d4⟩ := HCL.out _ (hb4.then_ hb6); have hb7 := hb5.then_ hb6)
      go_wp2_with (go_at_call 63; refine (HU.out _ hb7).mono ?_; rintro e w8 ⟨rfl, hb8⟩)
      go_ret
      exact ⟨by cases ru <;> rfl, hb7.then_ hb8⟩
end Go.Proofs.YtkklmflclmgjeaaGreatDoor

/-
  Schema: Same, by the document.
-/
set_option linter.unusedVariables false
set_option linter.unusedSimpArgs false
set_option linter.unusedVariables false
set_option linter.unusedSimpArgs false
namespace Go.Proofs.YtkklmflclmgjeaaGreatDoor
open Go.RowKit Go.Shelf Go.Lib
attribute [local go_sem] Oper.semAt_some

set_option maxRecDepth 100000 in
set_option maxHeartbeats 8000000 in
theorem tSame_any (va vka vua vb vkb vub : Value) (a b : List Col) (ka kb : List Int) (ua ub : List (List Int)) (w : World) (ha : ColsAt w va a) (hka : IntsAt w vka ka) (hua : ListsAt w vua ua) (hb : ColsAt w vb b) (hkb : IntsAt w vkb kb) (hub : ListsAt w vub ub) :
    Calls Tryz.prog 27 #[.agg #[va, vka, vua], .agg #[vb, vkb, vub]] w fun e w' => e = .returned (.bool (sameS a b ka kb ua ub)) ∧ Bel w w' := by
  obtain ⟨R, hR⟩ : ∃ R, R = sameS a b ka kb ua ub := ⟨_, rfl⟩
  rw [← hR]
  have HR := Lib.hid hR
  clear hR
  have HK := Lib.hid (fun V (h : Bel w V) => tInts3_any vka vkb ka kb V (hka.bel h) (hkb.bel h))
  clear hka hkb
  obtain ⟨Aa, ca, rfl, hca, hma, hra⟩ := ha
  obtain ⟨Ab, cb, rfl, hcb, hmb, hrb⟩ := hb
  obtain ⟨Au, cu, rfl, hcu, hmu, hru⟩ := hua
  obtain ⟨Av, cv, rfl, hcv, hmv, hrv⟩ := hub
  have haI : (a.length : Int) ≤ 9223372036854775807 := by unfold maxLen at hma; omega
  have hbI : (b.length : Int) ≤ 9223372036854775807 := by unfold maxLen at hmb; omega
  have huI : (ua.length : Int) ≤ 9223372036854775807 := by unfold maxLen at hmu; omega
  have hvI : (ub.length : Int) ≤ 9223372036854775807 := by unfold maxLen at hmv; omega
  have HRA := Lib.hid hra
  have HRB := Lib.hid hrb
  have HRU := Lib.hid hru
  have HRV := Lib.hid hrv
  clear hra hrb hru hrv hma hmb hmu hmv hca hcb hcu hcv
  have hb0 : Bel w ((w.alloc (.cells #[.slice Aa a.length ca, vka, .slice Au ua.length cu] 26)).alloc (.cells #[.slice Ab b.length cb, vkb, .slice Av ub.length cv] 26)) := ((Bel.refl w).alloc _).alloc _
  have HCL : Hid (∀ V, Bel ((w.alloc (.cells #[.slice Aa a.length ca, vka, .slice Au ua.length cu] 26)).alloc (.cells #[.slice Ab b.length cb, vkb, .slice Av ub.length cv] 26)) V → V.cell? ⟨w.heap.size, 0, none⟩ = some (.slice Aa a.length ca) ∧ V.cell? ⟨w.heap.size, 2, none⟩ = some (.slice Au ua.length cu) ∧ V.cell? ⟨w.heap.size + 1, 0, none⟩ = some (.slice Ab b.length cb) ∧ V.cell? ⟨w.heap.size + 1, 2, none⟩ = some (.slice Av ub.length cv)) :=
    fun V h => ⟨h.c (by go_simp), h.c (by go_simp), h.c (by go_simp), h.c (by go_simp)⟩
  by_cases n1 : a.length = b.length
  case neg =>
    have hf : R = false := by rw [HR.out]; unfold sameS; rw [decide_eq_false (fun e => n1 (by rw [e]))]; rfl
    have n1b : ((a.length : Int) != b.length) = true := by rw [bne_iff_ne]; omega
    go_enter Tryz.func27, Tryz.ntmps27
    go_wp2_with fail
    go_ret
    exact ⟨by first | rfl | (rw [hf]; rfl), hb0⟩
  have n1b : ((a.length : Int) != b.length) = false := by rw [bne_eq_false_iff_eq]; omega
  have N1 := Lib.hid n1
  clear n1
  by_cases n2 : ua.length = ub.length
  case neg =>
    have hf : R = false := by rw [HR.out]; unfold sameS; rw [decide_eq_false (p := ua = ub) (fun e => n2 (by rw [e]))]; simp
    have n2b : ((ua.length : Int) != ub.length) = true := by rw [bne_iff_ne]; omega
    go_enter Tryz.func27, Tryz.ntmps27
    go_wp2_with fail
    go_ret
    exact ⟨by first | rfl | (rw [hf]; rfl), hb0⟩
  have n2b : ((ua.length : Int) != ub.length) = false := by rw [bne_eq_false_iff_eq]; omega
  have N2 := Lib.hid n2
  clear n2
  by_cases n3 : ka = kb
  case neg =>
    have hf : R = false := by rw [HR.out]; unfold sameS; rw [decide_eq_false n3]; simp
    rw [decide_eq_false n3] at HK
    clear n3
    go_enter Tryz.func27, Tryz.ntmps27
    go_wp2_with (go_at_call 33; refine (HK.out _ hb0).mono ?_; rintro e w4 ⟨rfl, hb4⟩)
    go_ret
    exact ⟨by first | rfl | (rw [hf]; rfl), hb0.then_ hb4⟩
  rw [decide_eq_true n3] at HK
  have HRN : Hid (R = (decide (a = b) && decide (ua = ub))) := by show _ = _; rw [HR.out]; unfold sameS; rw [decide_eq_true n3, Bool.true_and]
  clear n3 HR
  go_enter Tryz.func27, Tryz.ntmps27
  go_wp2_with (go_at_call 33; refine (HK.out _ hb0).mono ?_; rintro e w4 ⟨rfl, hb4⟩)
  have HB4 := Lib.hid hb4
  have HW4 := Lib.hid (hb0.then_ hb4)
  clear hb4 hb0
  go_loopw [5] (fun i wr => ∃ k : Nat, k ≤ a.length ∧ i = .int .i64 k ∧ Hid (Bel w4 wr) ∧ Hid (a.take k = b.take k)) (fun i _ => a.length - (intOf i).toNat)
  case atStart => exact ⟨0, Nat.zero_le _, rfl, Bel.refl w4, by show _ = _; simp⟩
  case round =>
    obtain ⟨k, hk, rfl, HB, HT⟩ := hrel
    obtain ⟨l0, l2, m0, m2⟩ := HCL.out _ (HB4.out.then_ HB.out)
    by_cases hlt : k < a.length
    · obtain ⟨x, hx⟩ : ∃ x, a[k]? = some x := ⟨_, List.getElem?_eq_getElem hlt⟩
      obtain ⟨y, hy⟩ : ∃ y, b[k]? = some y := ⟨_, List.getElem?_eq_getElem (by have := N1.out; omega)⟩
      obtain ⟨ba, oa, rfl, hai⟩ := HRA.out (by omega)
      obtain ⟨bb, ob, rfl, hbi⟩ := HRB.out (by have := N1.out; omega)
      have hbw : Bel w wr := HW4.out.then_ HB.out
      have p0 := hbw.drew.c (hai k x hx).1
      have r0 := hbw.drew.c (hbi k y hy).1
      have p1 := hbw.drew.c (hai k x hx).2.1
      have r1 := hbw.drew.c (hbi k y hy).2.1
      have p2 := hbw.drew.c (hai k x hx).2.2.1
      have r2 := hbw.drew.c (hbi k y hy).2.2.1
      have p3 := hbw.drew.c (hai k x hx).2.2.2
      have r3 := hbw.drew.c (hbi k y hy).2.2.2
      have q0 := (Bel.refl wr).drew.c l0
      have q1 := (Bel.refl wr).drew.c m0
      have hkI : (k : Int) < a.length := by omega
      have hkJ : (k : Int) < b.length := by have := N1.out; omega
      have HNX : Hid (x = y → a.take (k + 1) = b.take (k + 1)) := fun e => by rw [List.take_add_one, List.take_add_one, hx, hy, HT.out, e]
      have HNO : Hid (¬ x = y → R = false) := fun e => by rw [HRN.out, decide_eq_false (fun h => e (by rw [h, hy] at hx; exact (Option.some.inj hx).symm))]; rfl
      have HLT := Lib.hid hlt
      have HBW := Lib.hid hbw
      clear hx hy hai hbi hlt hbw l2 m2 HT
      by_cases hxy : x = y
      · have ht := Lib.hid (HNX.out hxy)
        subst hxy
        have hne := fun W => col_ne x x W
        rw [decide_eq_false (by simp)] at hne
        unfold Col.v at hne
        go_wp2
        clear l0 m0
        refine wp_region_noPanic ?_
        refine wp_region_held_drew (S := (fun V : World => V.cell? ⟨w.heap.size, 0, none⟩ = some (.slice (some ⟨ba, oa, none⟩) a.length ca) ∧ V.cell? ⟨w.heap.size + 1, 0, none⟩ = some (.slice (some ⟨bb, ob, none⟩) b.length cb) ∧ V.cell? ⟨ba, oa + k * 4, none⟩ = some (.string x.name) ∧ V.cell? ⟨ba, oa + k * 4 + 1, none⟩ = some (.int .i64 x.t) ∧ V.cell? ⟨ba, oa + k * 4 + 2, none⟩ = some (.int .i64 x.z) ∧ V.cell? ⟨ba, oa + k * 4 + 3, none⟩ = some (.bool x.null) ∧ V.cell? ⟨bb, ob + k * 4, none⟩ = some (.string x.name) ∧ V.cell? ⟨bb, ob + k * 4 + 1, none⟩ = some (.int .i64 x.t) ∧ V.cell? ⟨bb, ob + k * 4 + 2, none⟩ = some (.int .i64 x.z) ∧ V.cell? ⟨bb, ob + k * 4 + 3, none⟩ = some (.bool x.null))) (by kernel_rfl) ?_ (fun hHr1_0 => ?_)
        · (try dsimp only); exact ⟨q0, q1, p0, p1, p2, p3, r0, r1, r2, r3⟩
        refine wpAnyH_take (i := 0) (oi := _) (v := ?vr1_1_0) rfl (by kernel_rfl) (by kernel_rfl) (by kernel_rfl) ?hqr1_1_0 (Or.inl ⟨by kernel_rfl, ?hyr1_1_0⟩) (by assumption) ?restr1_1_0
        case hqr1_1_0 => exact fun _ _ _ h => h
        case hyr1_1_0 => (intro w hSw; (try dsimp only at hSw); go_simp; try with_reducible rfl)
        try simp only [Act.put, List.getElem_toArray, List.getElem_cons_succ, List.getElem_cons_zero, List.setIfInBounds_toArray, List.set_cons_zero, List.set_cons_succ]
        refine wpAnyH_take (i := 1) (oi := _) (v := ?vr1_1_1) rfl (by kernel_rfl) (by kernel_rfl) (by kernel_rfl) ?hqr1_1_1 (Or.inl ⟨by kernel_rfl, ?hyr1_1_1⟩) (by assumption) ?restr1_1_1
        case hqr1_1_1 => exact fun _ _ _ h => h
        case hyr1_1_1 => (intro w hSw; (try dsimp only at hSw); go_simp; try with_reducible rfl)
        try simp only [Act.put, List.getElem_toArray, List.getElem_cons_succ, List.getElem_cons_zero, List.setIfInBounds_toArray, List.set_cons_zero, List.set_cons_succ]
        refine wpAnyH_take (i := 2) (oi := _) (v := ?vr1_1_2) rfl (by kernel_rfl) (by kernel_rfl) (by kernel_rfl) ?hqr1_1_2 (Or.inl ⟨by kernel_rfl, ?hyr1_1_2⟩) (by assumption) ?restr1_1_2
        case hqr1_1_2 => exact fun _ _ _ h => h
        case hyr1_1_2 => (intro w hSw; (try dsimp only at hSw); go_simp; try with_reducible rfl)
        try simp only [Act.put, List.getElem_toArray, List.getElem_cons_succ, List.getElem_cons_zero, List.setIfInBounds_toArray, List.set_cons_zero, List.set_cons_succ]
        refine wpAnyH_take (i := 3) (oi := _) (v := ?vr1_1_3) rfl (by kernel_rfl) (by kernel_rfl) (by kernel_rfl) ?hqr1_1_3 (Or.inl ⟨by kernel_rfl, ?hyr1_1_3⟩) (by assumption) ?restr1_1_3
        case hqr1_1_3 => exact fun _ _ _ h => h
        case hyr1_1_3 => (intro w hSw; (try dsimp only at hSw); go_simp; try with_reducible rfl)
        try simp only [Act.put, List.getElem_toArray, List.getElem_cons_succ, List.getElem_cons_zero, List.setIfInBounds_toArray, List.set_cons_zero, List.set_cons_succ]
        refine wpAnyH_take (i := 4) (oi := _) (v := ?vr1_1_4) rfl (by kernel_rfl) (by kernel_rfl) (by kernel_rfl) ?hqr1_1_4 (Or.inl ⟨by kernel_rfl, ?hyr1_1_4⟩) (by assumption) ?restr1_1_4
        case hqr1_1_4 => exact fun _ _ _ h => h
        case hyr1_1_4 => (intro w hSw; (try dsimp only at hSw); go_simp; try with_reducible rfl)
        try simp only [Act.put, List.getElem_toArray, List.getElem_cons_succ, List.getElem_cons_zero, List.setIfInBounds_toArray, List.set_cons_zero, List.set_cons_succ]
        refine wpAnyH_take (i := 5) (oi := _) (v := ?vr1_1_5) rfl (by kernel_rfl) (by kernel_rfl) (by kernel_rfl) ?hqr1_1_5 (Or.inl ⟨by kernel_rfl, ?hyr1_1_5⟩) (by assumption) ?restr1_1_5
        case hqr1_1_5 => exact fun _ _ _ h => h
        case hyr1_1_5 => (intro w hSw; (try dsimp only at hSw); go_simp; try with_reducible rfl)
        try simp only [Act.put, List.getElem_toArray, List.getElem_cons_succ, List.getElem_cons_zero, List.setIfInBounds_toArray, List.set_cons_zero, List.set_cons_succ]
        refine wpAnyH_take (i := 6) (oi := _) (v := ?vr1_1_6) rfl (by kernel_rfl) (by kernel_rfl) (by kernel_rfl) ?hqr1_1_6 (Or.inl ⟨by kernel_rfl, ?hyr1_1_6⟩) (by assumption) ?restr1_1_6
        case hqr1_1_6 => exact fun _ _ _ h => h
        case hyr1_1_6 => (intro w hSw; (try dsimp only at hSw); go_simp; try with_reducible rfl)
        try simp only [Act.put, List.getElem_toArray, List.getElem_cons_succ, List.getElem_cons_zero, List.setIfInBounds_toArray, List.set_cons_zero, List.set_cons_succ]
        refine wpAnyH_take (i := 7) (oi := _) (v := ?vr1_1_7) rfl (by kernel_rfl) (by kernel_rfl) (by kernel_rfl) ?hqr1_1_7 (Or.inl ⟨by kernel_rfl, ?hyr1_1_7⟩) (by assumption) ?restr1_1_7
        case hqr1_1_7 => exact fun _ _ _ h => h
        case hyr1_1_7 => (intro w hSw; (try dsimp only at hSw); go_simp; try with_reducible rfl)
        try simp only [Act.put, List.getElem_toArray, List.getElem_cons_succ, List.getElem_cons_zero, List.setIfInBounds_toArray, List.set_cons_zero, List.set_cons_succ]
        refine wpAnyH_take (i := 8) (oi := _) (v := ?vr1_1_8) rfl (by kernel_rfl) (by kernel_rfl) (by kernel_rfl) ?hqr1_1_8 (Or.inl ⟨by kernel_rfl, ?hyr1_1_8⟩) (by assumption) ?restr1_1_8
        case hqr1_1_8 => exact fun _ _ _ h => h
        case hyr1_1_8 => (intro w hSw; (try dsimp only at hSw); go_simp; try with_reducible rfl)
        try simp only [Act.put, List.getElem_toArray, List.getElem_cons_succ, List.getElem_cons_zero, List.setIfInBounds_toArray, List.set_cons_zero, List.set_cons_succ]
        refine wpAnyH_take (i := 9) (oi := _) (v := ?vr1_1_9) rfl (by kernel_rfl) (by kernel_rfl) (by kernel_rfl) ?hqr1_1_9 (Or.inl ⟨by kernel_rfl, ?hyr1_1_9⟩) (by assumption) ?restr1_1_9
        case hqr1_1_9 => exact fun _ _ _ h => h
        case hyr1_1_9 => (intro w hSw; (try dsimp only at hSw); go_simp; try with_reducible rfl)
        try simp only [Act.put, List.getElem_toArray, List.getElem_cons_succ, List.getElem_cons_zero, List.setIfInBounds_toArray, List.set_cons_zero, List.set_cons_succ]
        refine wpAnyH_take (i := 10) (oi := _) (v := ?vr1_1_10) rfl (by kernel_rfl) (by kernel_rfl) (by kernel_rfl) ?hqr1_1_10 (Or.inl ⟨by kernel_rfl, ?hyr1_1_10⟩) (by assumption) ?restr1_1_10
        case hqr1_1_10 => exact fun _ _ _ h => h
        case hyr1_1_10 => (intro w hSw; (try dsimp only at hSw); go_simp; try with_reducible rfl)
        try simp only [Act.put, List.getElem_toArray, List.getElem_cons_succ, List.getElem_cons_zero, List.setIfInBounds_toArray, List.set_cons_zero, List.set_cons_succ]
        refine wpAnyH_done (by kernel_rfl) ?_ _
        refine NoPanic.normal ?_
        go_wp2
        go_roundw
        case rel => exact ⟨k + 1, HLT.out, by go_num, HB.out.drew, ht.out⟩
        case measure => have := HLT.out; simp [intOf]; omega
      · have hf := HNO.out hxy
        have hne := fun W => col_ne x y W
        rw [decide_eq_true hxy] at hne
        unfold Col.v at hne
        go_wp2
        clear l0 m0
        refine wp_region_noPanic ?_
        refine wp_region_held_drew (S := (fun V : World => V.cell? ⟨w.heap.size, 0, none⟩ = some (.slice (some ⟨ba, oa, none⟩) a.length ca) ∧ V.cell? ⟨w.heap.size + 1, 0, none⟩ = some (.slice (some ⟨bb, ob, none⟩) b.length cb) ∧ V.cell? ⟨ba, oa + k * 4, none⟩ = some (.string x.name) ∧ V.cell? ⟨ba, oa + k * 4 + 1, none⟩ = some (.int .i64 x.t) ∧ V.cell? ⟨ba, oa + k * 4 + 2, none⟩ = some (.int .i64 x.z) ∧ V.cell? ⟨ba, oa + k * 4 + 3, none⟩ = some (.bool x.null) ∧ V.cell? ⟨bb, ob + k * 4, none⟩ = some (.string y.name) ∧ V.cell? ⟨bb, ob + k * 4 + 1, none⟩ = some (.int .i64 y.t) ∧ V.cell? ⟨bb, ob + k * 4 + 2, none⟩ = some (.int .i64 y.z) ∧ V.cell? ⟨bb, ob + k * 4 + 3, none⟩ = some (.bool y.null))) (by kernel_rfl) ?_ (fun hHr2_0 => ?_)
        · (try dsimp only); exact ⟨q0, q1, p0, p1, p2, p3, r0, r1, r2, r3⟩
        refine wpAnyH_take (i := 0) (oi := _) (v := ?vr2_1_0) rfl (by kernel_rfl) (by kernel_rfl) (by kernel_rfl) ?hqr2_1_0 (Or.inl ⟨by kernel_rfl, ?hyr2_1_0⟩) (by assumption) ?restr2_1_0
        case hqr2_1_0 => exact fun _ _ _ h => h
        case hyr2_1_0 => (intro w hSw; (try dsimp only at hSw); go_simp; try with_reducible rfl)
        try simp only [Act.put, List.getElem_toArray, List.getElem_cons_succ, List.getElem_cons_zero, List.setIfInBounds_toArray, List.set_cons_zero, List.set_cons_succ]
        refine wpAnyH_take (i := 1) (oi := _) (v := ?vr2_1_1) rfl (by kernel_rfl) (by kernel_rfl) (by kernel_rfl) ?hqr2_1_1 (Or.inl ⟨by kernel_rfl, ?hyr2_1_1⟩) (by assumption) ?restr2_1_1
        case hqr2_1_1 => exact fun _ _ _ h => h
        case hyr2_1_1 => (intro w hSw; (try dsimp only at hSw); go_simp; try with_reducible rfl)
        try simp only [Act.put, List.getElem_toArray, List.getElem_cons_succ, List.getElem_cons_zero, List.setIfInBounds_toArray, List.set_cons_zero, List.set_cons_succ]
        refine wpAnyH_take (i := 2) (oi := _) (v := ?vr2_1_2) rfl (by kernel_rfl) (by kernel_rfl) (by kernel_rfl) ?hqr2_1_2 (Or.inl ⟨by kernel_rfl, ?hyr2_1_2⟩) (by assumption) ?restr2_1_2
        case hqr2_1_2 => exact fun _ _ _ h => h
        case hyr2_1_2 => (intro w hSw; (try dsimp only at hSw); go_simp; try with_reducible rfl)
        try simp only [Act.put, List.getElem_toArray, List.getElem_cons_succ, List.getElem_cons_zero, List.setIfInBounds_toArray, List.set_cons_zero, List.set_cons_succ]
        refine wpAnyH_take (i := 3) (oi := _) (v := ?vr2_1_3) rfl (by kernel_rfl) (by kernel_rfl) (by kernel_rfl) ?hqr2_1_3 (Or.inl ⟨by kernel_rfl, ?hyr2_1_3⟩) (by assumption) ?restr2_1_3
        case hqr2_1_3 => exact fun _ _ _ h => h
        case hyr2_1_3 => (intro w hSw; (try dsimp only at hSw); go_simp; try with_reducible rfl)
        try simp only [Act.put, List.getElem_toArray, List.getElem_cons_succ, List.getElem_cons_zero, List.setIfInBounds_toArray, List.set_cons_zero, List.set_cons_succ]
        refine wpAnyH_take (i := 4) (oi := _) (v := ?vr2_1_4) rfl (by kernel_rfl) (by kernel_rfl) (by kernel_rfl) ?hqr2_1_4 (Or.inl ⟨by kernel_rfl, ?hyr2_1_4⟩) (by assumption) ?restr2_1_4
        case hqr2_1_4 => exact fun _ _ _ h => h
        case hyr2_1_4 => (intro w hSw; (try dsimp only at hSw); go_simp; try with_reducible rfl)
        try simp only [Act.put, List.getElem_toArray, List.getElem_cons_succ, List.getElem_cons_zero, List.setIfInBounds_toArray, List.set_cons_zero, List.set_cons_succ]
        refine wpAnyH_take (i := 5) (oi := _) (v := ?vr2_1_5) rfl (by kernel_rfl) (by kernel_rfl) (by kernel_rfl) ?hqr2_1_5 (Or.inl ⟨by kernel_rfl, ?hyr2_1_5⟩) (by assumption) ?restr2_1_5
        case hqr2_1_5 => exact fun _ _ _ h => h
        case hyr2_1_5 => (intro w hSw; (try dsimp only at hSw); go_simp; try with_reducible rfl)
        try simp only [Act.put, List.getElem_toArray, List.getElem_cons_succ, List.getElem_cons_zero, List.setIfInBounds_toArray, List.set_cons_zero, List.set_cons_succ]
        refine wpAnyH_take (i := 6) (oi := _) (v := ?vr2_1_6) rfl (by kernel_rfl) (by kernel_rfl) (by kernel_rfl) ?hqr2_1_6 (Or.inl ⟨by kernel_rfl, ?hyr2_1_6⟩) (by assumption) ?restr2_1_6
        case hqr2_1_6 => exact fun _ _ _ h => h
        case hyr2_1_6 => (intro w hSw; (try dsimp only at hSw); go_simp; try with_reducible rfl)
        try simp only [Act.put, List.getElem_toArray, List.getElem_cons_succ, List.getElem_cons_zero, List.setIfInBounds_toArray, List.set_cons_zero, List.set_cons_succ]
        refine wpAnyH_take (i := 7) (oi := _) (v := ?vr2_1_7) rfl (by kernel_rfl) (by kernel_rfl) (by kernel_rfl) ?hqr2_1_7 (Or.inl ⟨by kernel_rfl, ?hyr2_1_7⟩) (by assumption) ?restr2_1_7
        case hqr2_1_7 => exact fun _ _ _ h => h
        case hyr2_1_7 => (intro w hSw; (try dsimp only at hSw); go_simp; try with_reducible rfl)
        try simp only [Act.put, List.getElem_toArray, List.getElem_cons_succ, List.getElem_cons_zero, List.setIfInBounds_toArray, List.set_cons_zero, List.set_cons_succ]
        refine wpAnyH_take (i := 8) (oi := _) (v := ?vr2_1_8) rfl (by kernel_rfl) (by kernel_rfl) (by kernel_rfl) ?hqr2_1_8 (Or.inl ⟨by kernel_rfl, ?hyr2_1_8⟩) (by assumption) ?restr2_1_8
        case hqr2_1_8 => exact fun _ _ _ h => h
        case hyr2_1_8 => (intro w hSw; (try dsimp only at hSw); go_simp; try with_reducible rfl)
        try simp only [Act.put, List.getElem_toArray, List.getElem_cons_succ, List.getElem_cons_zero, List.setIfInBounds_toArray, List.set_cons_zero, List.set_cons_succ]
        refine wpAnyH_take (i := 9) (oi := _) (v := ?vr2_1_9) rfl (by kernel_rfl) (by kernel_rfl) (by kernel_rfl) ?hqr2_1_9 (Or.inl ⟨by kernel_rfl, ?hyr2_1_9⟩) (by assumption) ?restr2_1_9
        case hqr2_1_9 => exact fun _ _ _ h => h
        case hyr2_1_9 => (intro w hSw; (try dsimp only at hSw); go_simp; try with_reducible rfl)
        try simp only [Act.put, List.getElem_toArray, List.getElem_cons_succ, List.getElem_cons_zero, List.setIfInBounds_toArray, List.set_cons_zero, List.set_cons_succ]
        refine wpAnyH_take (i := 10) (oi := _) (v := ?vr2_1_10) rfl (by kernel_rfl) (by kernel_rfl) (by kernel_rfl) ?hqr2_1_10 (Or.inl ⟨by kernel_rfl, ?hyr2_1_10⟩) (by assumption) ?restr2_1_10
        case hqr2_1_10 => exact fun _ _ _ h => h
        case hyr2_1_10 => (intro w hSw; (try dsimp only at hSw); go_simp; try with_reducible rfl)
        try simp only [Act.put, List.getElem_toArray, List.getElem_cons_succ, List.getElem_cons_zero, List.setIfInBounds_toArray, List.set_cons_zero, List.set_cons_succ]
        refine wpAnyH_done (by kernel_rfl) ?_ _
        refine NoPanic.normal ?_
        go_wp2
        go_ret
        exact ⟨by first | rfl | (rw [hf]; rfl), HBW.out.drew⟩
    · obtain rfl : k = a.length := by omega
      have HRM : Hid (R = decide (ua = ub)) := by
        show _ = _
        have := HT.out
        rw [List.take_length, N1.out, List.take_length] at this
        rw [HRN.out, decide_eq_true this, Bool.true_and]
      clear HT hlt hk l0 l2 m0 m2
      obtain ⟨l0, l2, m0, m2⟩ := HCL.out _ (HB4.out.then_ HB.out)
      have HBW := Lib.hid (HW4.out.then_ HB.out)
      have HB4r := Lib.hid (HB4.out.then_ HB.out)
      go_wp2
      clear l0 l2 m0 m2
      obtain ⟨wo, rfl⟩ : ∃ wo : World, wo = wr := ⟨_, rfl⟩
      go_loopw [6] (fun i wi => ∃ k : Nat, k ≤ ua.length ∧ i = .int .i64 k ∧ Hid (Bel wo wi) ∧ Hid (ua.take k = ub.take k)) (fun i _ => ua.length - (intOf i).toNat)
      case atStart => exact ⟨0, Nat.zero_le _, rfl, Bel.refl wo, by show _ = _; simp⟩
      case round =>
        obtain ⟨wi, rfl⟩ : ∃ wi : World, wi = wr := ⟨_, rfl⟩
        obtain ⟨k, hk, rfl, HBI, HT⟩ := hrel
        obtain ⟨l0, l2, m0, m2⟩ := HCL.out _ (HB4r.out.then_ HBI.out)
        by_cases hlt : k < ua.length
        · obtain ⟨x, hx⟩ : ∃ x, ua[k]? = some x := ⟨_, List.getElem?_eq_getElem hlt⟩
          obtain ⟨y, hy⟩ : ∃ y, ub[k]? = some y := ⟨_, List.getElem?_eq_getElem (by have := N2.out; omega)⟩
          obtain ⟨bu, ou, rfl, hui⟩ := HRU.out (by omega)
          obtain ⟨bv, ov, rfl, hvi⟩ := HRV.out (by have := N2.out; omega)
          obtain ⟨u, hu0, hu1⟩ := hui k x hx
          obtain ⟨v, hv0, hv1⟩ := hvi k y hy
          have hbw : Bel w wi := HBW.out.then_ HBI.out
          have hkI : (k : Int) < ua.length := by omega
          have hkJ : (k : Int) < ub.length := by have := N2.out; omega
          have HNX : Hid (x = y → ua.take (k + 1) = ub.take (k + 1)) := fun e => by rw [List.take_add_one, List.take_add_one, hx, hy, HT.out, e]
          have HNO : Hid (¬ x = y → R = false) := fun e => by rw [HRM.out]; exact decide_eq_false (fun h => e (by rw [h, hy] at hx; exact (Option.some.inj hx).symm))
          have HEQ := Lib.hid (fun V (h : Bel wi V) => tInts3_any u v x y V (hu1.bel (hbw.then_ h)) (hv1.bel (hbw.then_ h)))
          have HLT := Lib.hid hlt
          have hS : ∀ V, Bel wi V → (fun V : World => Bel wi V ∧ V.cell? ⟨w.heap.size, 2, none⟩ = some (.slice (some ⟨bu, ou, none⟩) ua.length cu) ∧ V.cell? ⟨w.heap.size + 1, 2, none⟩ = some (.slice (some ⟨bv, ov, none⟩) ub.length cv) ∧ V.cell? ⟨bu, ou + k, none⟩ = some u ∧ V.cell? ⟨bv, ov + k, none⟩ = some v) V :=
            fun V h => ⟨h, h.c l2, h.c m2, (hbw.then_ h).c hu0, (hbw.then_ h).c hv0⟩
          have HBX := Lib.hid hbw
          clear hx hy hui hvi hlt hu0 hu1 hv0 hv1 hbw HT
          by_cases hxy : x = y
          · have ht := Lib.hid (HNX.out hxy)
            rw [decide_eq_true hxy] at HEQ
            clear hxy
            go_wp2_with fail
            refine wp_region_noPanic ?_
            refine wp_region_held_drew (S := (fun V : World => Bel wi V ∧ V.cell? ⟨w.heap.size, 2, none⟩ = some (.slice (some ⟨bu, ou, none⟩) ua.length cu) ∧ V.cell? ⟨w.heap.size + 1, 2, none⟩ = some (.slice (some ⟨bv, ov, none⟩) ub.length cv) ∧ V.cell? ⟨bu, ou + k, none⟩ = some u ∧ V.cell? ⟨bv, ov + k, none⟩ = some v)) (by kernel_rfl) ?_ (fun hHr3_0 => ?_)
            · (try dsimp only); (first | assumption | exact hS _ (Bel.refl _).drew | exact hS _ (Bel.then_ (And.left (by assumption)) hb5))
            refine wpAnyH_take (i := 0) (oi := _) (v := ?vr3_1_0) rfl (by kernel_rfl) (by kernel_rfl) (by kernel_rfl) ?hqr3_1_0 (Or.inl ⟨by kernel_rfl, ?hyr3_1_0⟩) (by assumption) ?restr3_1_0
            case hqr3_1_0 => exact fun _ _ _ h => h
            case hyr3_1_0 => (intro w hSw; (try dsimp only at hSw); go_simp; try with_reducible rfl)
            try simp only [Act.put, List.getElem_toArray, List.getElem_cons_succ, List.getElem_cons_zero, List.setIfInBounds_toArray, List.set_cons_zero, List.set_cons_succ]
            refine wpAnyH_take (i := 1) (oi := _) (v := ?vr3_1_1) rfl (by kernel_rfl) (by kernel_rfl) (by kernel_rfl) ?hqr3_1_1 (Or.inl ⟨by kernel_rfl, ?hyr3_1_1⟩) (by assumption) ?restr3_1_1
            case hqr3_1_1 => exact fun _ _ _ h => h
            case hyr3_1_1 => (intro w hSw; (try dsimp only at hSw); go_simp; try with_reducible rfl)
            try simp only [Act.put, List.getElem_toArray, List.getElem_cons_succ, List.getElem_cons_zero, List.setIfInBounds_toArray, List.set_cons_zero, List.set_cons_succ]
            refine wpAnyH_take (i := 2) (oi := _) (v := ?vr3_1_2) rfl (by kernel_rfl) (by kernel_rfl) (by kernel_rfl) ?hqr3_1_2 (Or.inl ⟨by kernel_rfl, ?hyr3_1_2⟩) (by assumption) ?restr3_1_2
            case hqr3_1_2 => exact fun _ _ _ h => h
            case hyr3_1_2 => (intro w hSw; (try dsimp only at hSw); go_simp; try with_reducible rfl)
            try simp only [Act.put, List.getElem_toArray, List.getElem_cons_succ, List.getElem_cons_zero, List.setIfInBounds_toArray, List.set_cons_zero, List.set_cons_succ]
            refine wpAnyH_take (i := 3) (oi := _) (v := ?vr3_1_3) rfl (by kernel_rfl) (by kernel_rfl) (by kernel_rfl) ?hqr3_1_3 (Or.inl ⟨by kernel_rfl, ?hyr3_1_3⟩) (by assumption) ?restr3_1_3
            case hqr3_1_3 => exact fun _ _ _ h => h
            case hyr3_1_3 => (intro w hSw; (try dsimp only at hSw); go_simp; try with_reducible rfl)
            try simp only [Act.put, List.getElem_toArray, List.getElem_cons_succ, List.getElem_cons_zero, List.setIfInBounds_toArray, List.set_cons_zero, List.set_cons_succ]
            refine wpAnyH_take (i := 4) (oi := _) (v := ?vr3_1_4) rfl (by kernel_rfl) (by kernel_rfl) (by kernel_rfl) ?hqr3_1_4 (Or.inl ⟨by kernel_rfl, ?hyr3_1_4⟩) (by assumption) ?restr3_1_4
            case hqr3_1_4 => exact fun _ _ _ h => h
            case hyr3_1_4 => (intro w hSw; (try dsimp only at hSw); go_simp; try with_reducible rfl)
            try simp only [Act.put, List.getElem_toArray, List.getElem_cons_succ, List.getElem_cons_zero, List.setIfInBounds_toArray, List.set_cons_zero, List.set_cons_succ]
            refine wpAnyH_take (i := 5) (oi := _) (v := ?vr3_1_5) rfl (by kernel_rfl) (by kernel_rfl) (by kernel_rfl) ?hqr3_1_5 (Or.inl ⟨by kernel_rfl, ?hyr3_1_5⟩) (by assumption) ?restr3_1_5
            case hqr3_1_5 => exact fun _ _ _ h => h
            case hyr3_1_5 => (intro w hSw; (try dsimp only at hSw); go_simp; try with_reducible rfl)
            try simp only [Act.put, List.getElem_toArray, List.getElem_cons_succ, List.getElem_cons_zero, List.setIfInBounds_toArray, List.set_cons_zero, List.set_cons_succ]
            refine wpAnyH_take (i := 6) (oi := _) (v := ?vr3_1_6) rfl (by kernel_rfl) (by kernel_rfl) (by kernel_rfl) ?hqr3_1_6 (Or.inl ⟨by kernel_rfl, ?hyr3_1_6⟩) (by assumption) ?restr3_1_6
            case hqr3_1_6 => exact fun _ _ _ h => h
            case hyr3_1_6 => (intro w hSw; (try dsimp only at hSw); go_simp; try with_reducible rfl)
            try simp only [Act.put, List.getElem_toArray, List.getElem_cons_succ, List.getElem_cons_zero, List.setIfInBounds_toArray, List.set_cons_zero, List.set_cons_succ]
            refine wpAnyH_take (i := 7) (oi := _) (v := ?vr3_1_7) rfl (by kernel_rfl) (by kernel_rfl) (by kernel_rfl) ?hqr3_1_7 (Or.inl ⟨by kernel_rfl, ?hyr3_1_7⟩) (by assumption) ?restr3_1_7
            case hqr3_1_7 => exact fun _ _ _ h => h
            case hyr3_1_7 => (intro w hSw; (try dsimp only at hSw); go_simp; try with_reducible rfl)
            try simp only [Act.put, List.getElem_toArray, List.getElem_cons_succ, List.getElem_cons_zero, List.setIfInBounds_toArray, List.set_cons_zero, List.set_cons_succ]
            refine wpAnyH_take (i := 8) (oi := _) (v := ?vr3_1_8) rfl (by kernel_rfl) (by kernel_rfl) (by kernel_rfl) ?hqr3_1_8 (Or.inl ⟨by kernel_rfl, ?hyr3_1_8⟩) (by assumption) ?restr3_1_8
            case hqr3_1_8 => exact fun _ _ _ h => h
            case hyr3_1_8 => (intro w hSw; (try dsimp only at hSw); go_simp; try with_reducible rfl)
            try simp only [Act.put, List.getElem_toArray, List.getElem_cons_succ, List.getElem_cons_zero, List.setIfInBounds_toArray, List.set_cons_zero, List.set_cons_succ]
            refine wpAnyH_take (i := 9) (oi := _) (v := ?vr3_1_9) rfl (by kernel_rfl) (by kernel_rfl) (by kernel_rfl) ?hqr3_1_9 (Or.inl ⟨by kernel_rfl, ?hyr3_1_9⟩) (by assumption) ?restr3_1_9
            case hqr3_1_9 => exact fun _ _ _ h => h
            case hyr3_1_9 => (intro w hSw; (try dsimp only at hSw); go_simp; try with_reducible rfl)
            try simp only [Act.put, List.getElem_toArray, List.getElem_cons_succ, List.getElem_cons_zero, List.setIfInBounds_toArray, List.set_cons_zero, List.set_cons_succ]
            refine wpAnyH_ready (rs := [10]) (by kernel_rfl) (by simp) ?_
            refine AllReadyH.cons (o := _) rfl (fun K hK => ?_) AllReadyH.nil
            go_simp
            (go_at_call 33; refine (HEQ.out _ (And.left (by assumption))).mono ?_; rintro e w5 ⟨rfl, hb5⟩)
            try (go_wp2_with fail)
            refine hK.out _ _ ?_ (fun hHr3_1 => ?_)
            · (try dsimp only); (first | assumption | exact hS _ (Bel.refl _).drew | exact hS _ (Bel.then_ (And.left (by assumption)) hb5))
            clear hK K hHr3_0
            try simp only [Act.put, List.getElem_toArray, List.getElem_cons_succ, List.getElem_cons_zero, List.setIfInBounds_toArray, List.set_cons_zero, List.set_cons_succ]
            refine wpAnyH_take (i := 11) (oi := _) (v := ?vr3_1_11) rfl (by kernel_rfl) (by kernel_rfl) (by kernel_rfl) ?hqr3_1_11 (Or.inl ⟨by kernel_rfl, ?hyr3_1_11⟩) (by assumption) ?restr3_1_11
            case hqr3_1_11 => exact fun _ _ _ h => h
            case hyr3_1_11 => (intro w hSw; (try dsimp only at hSw); go_simp; try with_reducible rfl)
            try simp only [Act.put, List.getElem_toArray, List.getElem_cons_succ, List.getElem_cons_zero, List.setIfInBounds_toArray, List.set_cons_zero, List.set_cons_succ]
            refine wpAnyH_done (by kernel_rfl) ?_ _
            refine NoPanic.normal ?_
            have hfin := And.left (by assumption)
            go_wp2
            go_roundw
            case rel => exact ⟨k + 1, HLT.out, by go_num, HBI.out.then_ hfin, ht.out⟩
            case measure => have := HLT.out; simp [intOf]; omega
          · have hf := HNO.out hxy
            rw [decide_eq_false hxy] at HEQ
            clear hxy
            go_wp2_with fail
            refine wp_region_noPanic ?_
            refine wp_region_held_drew (S := (fun V : World => Bel wi V ∧ V.cell? ⟨w.heap.size, 2, none⟩ = some (.slice (some ⟨bu, ou, none⟩) ua.length cu) ∧ V.cell? ⟨w.heap.size + 1, 2, none⟩ = some (.slice (some ⟨bv, ov, none⟩) ub.length cv) ∧ V.cell? ⟨bu, ou + k, none⟩ = some u ∧ V.cell? ⟨bv, ov + k, none⟩ = some v)) (by kernel_rfl) ?_ (fun hHr4_0 => ?_)
            · (try dsimp only); (first | assumption | exact hS _ (Bel.refl _).drew | exact hS _ (Bel.then_ (And.left (by assumption)) hb5))
            refine wpAnyH_take (i := 0) (oi := _) (v := ?vr4_1_0) rfl (by kernel_rfl) (by kernel_rfl) (by kernel_rfl) ?hqr4_1_0 (Or.inl ⟨by kernel_rfl, ?hyr4_1_0⟩) (by assumption) ?restr4_1_0
            case hqr4_1_0 => exact fun _ _ _ h => h
            case hyr4_1_0 => (intro w hSw; (try dsimp only at hSw); go_simp; try with_reducible rfl)
            try simp only [Act.put, List.getElem_toArray, List.getElem_cons_succ, List.getElem_cons_zero, List.setIfInBounds_toArray, List.set_cons_zero, List.set_cons_succ]
            refine wpAnyH_take (i := 1) (oi := _) (v := ?vr4_1_1) rfl (by kernel_rfl) (by kernel_rfl) (by kernel_rfl) ?hqr4_1_1 (Or.inl ⟨by kernel_rfl, ?hyr4_1_1⟩) (by assumption) ?restr4_1_1
            case hqr4_1_1 => exact fun _ _ _ h => h
            case hyr4_1_1 => (intro w hSw; (try dsimp only at hSw); go_simp; try with_reducible rfl)
            try simp only [Act.put, List.getElem_toArray, List.getElem_cons_succ, List.getElem_cons_zero, List.setIfInBounds_toArray, List.set_cons_zero, List.set_cons_succ]
            refine wpAnyH_take (i := 2) (oi := _) (v := ?vr4_1_2) rfl (by kernel_rfl) (by kernel_rfl) (by kernel_rfl) ?hqr4_1_2 (Or.inl ⟨by kernel_rfl, ?hyr4_1_2⟩) (by assumption) ?restr4_1_2
            case hqr4_1_2 => exact fun _ _ _ h => h
            case hyr4_1_2 => (intro w hSw; (try dsimp only at hSw); go_simp; try with_reducible rfl)
            try simp only [Act.put, List.getElem_toArray, List.getElem_cons_succ, List.getElem_cons_zero, List.setIfInBounds_toArray, List.set_cons_zero, List.set_cons_succ]
            refine wpAnyH_take (i := 3) (oi := _) (v := ?vr4_1_3) rfl (by kernel_rfl) (by kernel_rfl) (by kernel_rfl) ?hqr4_1_3 (Or.inl ⟨by kernel_rfl, ?hyr4_1_3⟩) (by assumption) ?restr4_1_3
            case hqr4_1_3 => exact fun _ _ _ h => h
            case hyr4_1_3 => (intro w hSw; (try dsimp only at hSw); go_simp; try with_reducible rfl)
            try simp only [Act.put, List.getElem_toArray, List.getElem_cons_succ, List.getElem_cons_zero, List.setIfInBounds_toArray, List.set_cons_zero, List.set_cons_succ]
            refine wpAnyH_take (i := 4) (oi := _) (v := ?vr4_1_4) rfl (by kernel_rfl) (by kernel_rfl) (by kernel_rfl) ?hqr4_1_4 (Or.inl ⟨by kernel_rfl, ?hyr4_1_4⟩) (by assumption) ?restr4_1_4
            case hqr4_1_4 => exact fun _ _ _ h => h
            case hyr4_1_4 => (intro w hSw; (try dsimp only at hSw); go_simp; try with_reducible rfl)
            try simp only [Act.put, List.getElem_toArray, List.getElem_cons_succ, List.getElem_cons_zero, List.setIfInBounds_toArray, List.set_cons_zero, List.set_cons_succ]
            refine wpAnyH_take (i := 5) (oi := _) (v := ?vr4_1_5) rfl (by kernel_rfl) (by kernel_rfl) (by kernel_rfl) ?hqr4_1_5 (Or.inl ⟨by kernel_rfl, ?hyr4_1_5⟩) (by assumption) ?restr4_1_5
            case hqr4_1_5 => exact fun _ _ _ h => h
            case hyr4_1_5 => (intro w hSw; (try dsimp only at hSw); go_simp; try with_reducible rfl)
            try simp only [Act.put, List.getElem_toArray, List.getElem_cons_succ, List.getElem_cons_zero, List.setIfInBounds_toArray, List.set_cons_zero, List.set_cons_succ]
            refine wpAnyH_take (i := 6) (oi := _) (v := ?vr4_1_6) rfl (by kernel_rfl) (by kernel_rfl) (by kernel_rfl) ?hqr4_1_6 (Or.inl ⟨by kernel_rfl, ?hyr4_1_6⟩) (by assumption) ?restr4_1_6
            case hqr4_1_6 => exact fun _ _ _ h => h
            case hyr4_1_6 => (intro w hSw; (try dsimp only at hSw); go_simp; try with_reducible rfl)
            try simp only [Act.put, List.getElem_toArray, List.getElem_cons_succ, List.getElem_cons_zero, List.setIfInBounds_toArray, List.set_cons_zero, List.set_cons_succ]
            refine wpAnyH_take (i := 7) (oi := _) (v := ?vr4_1_7) rfl (by kernel_rfl) (by kernel_rfl) (by kernel_rfl) ?hqr4_1_7 (Or.inl ⟨by kernel_rfl, ?hyr4_1_7⟩) (by assumption) ?restr4_1_7
            case hqr4_1_7 => exact fun _ _ _ h => h
            case hyr4_1_7 => (intro w hSw; (try dsimp only at hSw); go_simp; try with_reducible rfl)
            try simp only [Act.put, List.getElem_toArray, List.getElem_cons_succ, List.getElem_cons_zero, List.setIfInBounds_toArray, List.set_cons_zero, List.set_cons_succ]
            refine wpAnyH_take (i := 8) (oi := _) (v := ?vr4_1_8) rfl (by kernel_rfl) (by kernel_rfl) (by kernel_rfl) ?hqr4_1_8 (Or.inl ⟨by kernel_rfl, ?hyr4_1_8⟩) (by assumption) ?restr4_1_8
            case hqr4_1_8 => exact fun _ _ _ h => h
            case hyr4_1_8 => (intro w hSw; (try dsimp only at hSw); go_simp; try with_reducible rfl)
            try simp only [Act.put, List.getElem_toArray, List.getElem_cons_succ, List.getElem_cons_zero, List.setIfInBounds_toArray, List.set_cons_zero, List.set_cons_succ]
            refine wpAnyH_take (i := 9) (oi := _) (v := ?vr4_1_9) rfl (by kernel_rfl) (by kernel_rfl) (by kernel_rfl) ?hqr4_1_9 (Or.inl ⟨by kernel_rfl, ?hyr4_1_9⟩) (by assumption) ?restr4_1_9
            case hqr4_1_9 => exact fun _ _ _ h => h
            case hyr4_1_9 => (intro w hSw; (try dsimp only at hSw); go_simp; try with_reducible rfl)
            try simp only [Act.put, List.getElem_toArray, List.getElem_cons_succ, List.getElem_cons_zero, List.setIfInBounds_toArray, List.set_cons_zero, List.set_cons_succ]
            refine wpAnyH_ready (rs := [10]) (by kernel_rfl) (by simp) ?_
            refine AllReadyH.cons (o := _) rfl (fun K hK => ?_) AllReadyH.nil
            go_simp
            (go_at_call 33; refine (HEQ.out _ (And.left (by assumption))).mono ?_; rintro e w5 ⟨rfl, hb5⟩)
            try (go_wp2_with fail)
            refine hK.out _ _ ?_ (fun hHr4_1 => ?_)
            · (try dsimp only); (first | assumption | exact hS _ (Bel.refl _).drew | exact hS _ (Bel.then_ (And.left (by assumption)) hb5))
            clear hK K hHr4_0
            try simp only [Act.put, List.getElem_toArray, List.getElem_cons_succ, List.getElem_cons_zero, List.setIfInBounds_toArray, List.set_cons_zero, List.set_cons_succ]
            refine wpAnyH_take (i := 11) (oi := _) (v := ?vr4_1_11) rfl (by kernel_rfl) (by kernel_rfl) (by kernel_rfl) ?hqr4_1_11 (Or.inl ⟨by kernel_rfl, ?hyr4_1_11⟩) (by assumption) ?restr4_1_11
            case hqr4_1_11 => exact fun _ _ _ h => h
            case hyr4_1_11 => (intro w hSw; (try dsimp only at hSw); go_simp; try with_reducible rfl)
            try simp only [Act.put, List.getElem_toArray, List.getElem_cons_succ, List.getElem_cons_zero, List.setIfInBounds_toArray, List.set_cons_zero, List.set_cons_succ]
            refine wpAnyH_done (by kernel_rfl) ?_ _
            refine NoPanic.normal ?_
            have hfin := And.left (by assumption)
            go_wp2
            go_ret
            exact ⟨by first | rfl | (rw [hf]; rfl), HBX.out.then_ hfin⟩
        · obtain rfl : k = ua.length := by omega
          have ht : R = true := by
            rw [HRM.out]
            have := HT.out
            rw [List.take_length, N2.out, List.take_length] at this
            exact decide_eq_true this
          clear HT hlt hk l0 m0
          go_wp2
          go_ret
          exact ⟨by first | rfl | (rw [ht]; rfl), HBW.out.then_ HBI.out⟩
end Go.Proofs.YtkklmflclmgjeaaGreatDoor

/-
  CodecSchemas, its walk.
-/
set_option linter.unusedVariables false
set_option linter.unusedSimpArgs false
set_option linter.unusedVariables false
set_option linter.unusedSimpArgs false
namespace Go.Proofs.YtkklmflclmgjeaaGreatDoor
open Go.RowKit Go.Shelf Go.Lib
attribute [local go_sem] Oper.semAt_some

theorem encCols_len : ∀ (l : List Col), (∀ c ∈ l, c.t ≤ 4 ∧ c.z ≤ 200 ∧ c.name.size ≤ 24) → (encCols l).length ≤ 60 * l.length
  | [], _ => by simp [encCols]
  | c :: l, h => by
    have h1 := h c (List.mem_cons_self ..)
    have h2 := encCols_len l (fun x hx => h x (List.mem_cons_of_mem _ hx))
    have hl : (c.name.data.toList).length = c.name.size := rfl
    have a1 := numB_9 (n := c.name.data.toList.length) (by rw [hl]; omega)
    have a2 := numB_9 (n := c.t.toNat) (by omega)
    have a3 := numB_9 (n := c.z.toNat) (by omega)
    have a4 := numB_9 (n := bNat c.null) (by unfold bNat; split <;> omega)
    show (encCol c ++ encCols l).length ≤ _
    unfold encCol textB
    simp only [List.length_append, List.length_cons]
    omega
theorem encInts_len : ∀ (l : List Int), (∀ x ∈ l, x < 8) → (encInts l).length ≤ 9 * l.length
  | [], _ => by simp [encInts]
  | n :: l, h => by
    have h1 := h n (List.mem_cons_self ..)
    have h2 := encInts_len l (fun x hx => h x (List.mem_cons_of_mem _ hx))
    have a1 := numB_9 (n := n.toNat) (by omega)
    show (numB n.toNat ++ encInts l).length ≤ _
    simp only [List.length_append, List.length_cons]
    omega
theorem encList_len (l : List Int) (hl : l.length ≤ 4) (h : ∀ x ∈ l, x < 8) : (encList l).length ≤ 50 := by
  have h2 := encInts_len l h
  have a1 := numB_9 (n := l.length) (by omega)
  unfold encList
  rw [List.length_append]
  omega
theorem encLists_len : ∀ (L : List (List Int)), (∀ l ∈ L, l.length ≤ 4 ∧ ∀ x ∈ l, x < 8) → (encLists L).length ≤ 50 * L.length
  | [], _ => by simp [encLists]
  | l :: L, h => by
    have h1 := h l (List.mem_cons_self ..)
    have h2 := encLists_len L (fun x hx => h x (List.mem_cons_of_mem _ hx))
    have a1 := encList_len l h1.1 h1.2
    show (encList l ++ encLists L).length ≤ _
    simp only [List.length_append, List.length_cons]
    omega
theorem encSch_len {cols : List Col} {key : List Int} {uq : List (List Int)} (h : rightS cols key uq = true) : (encSch cols key uq).length ≤ 1000000 := by
  obtain ⟨h1, h2, h3, h4, h5, h6⟩ := right_small h
  have a1 := encCols_len cols (fun c hc => ⟨(h1 c hc).2.1, (h1 c hc).2.2.2.1, (h1 c hc).2.2.2.2⟩)
  have a2 := encList_len key h4.1 (fun x hx => (h4.2 x hx).2)
  have a3 := encLists_len uq (fun l hl => ⟨(h6 l hl).1, fun x hx => ((h6 l hl).2 x hx).2⟩)
  have a4 := numB_9 (n := cols.length) (by omega)
  have a5 := numB_9 (n := uq.length) (by omega)
  unfold encSch
  simp only [List.length_append]
  omega
def soC : Option (List Col × List Int × List (List Int)) → List Col
  | some q => q.1
  | none => []
def soK : Option (List Col × List Int × List (List Int)) → List Int
  | some q => q.2.1
  | none => []
def soU : Option (List Col × List Int × List (List Int)) → List (List Int)
  | some q => q.2.2
  | none => []
def soN : Option (List Col × List Int × List (List Int)) → Int
  | some _ => 0
  | none => 140
theorem givesSch_open {o : Option (List Col × List Int × List (List Int))} {w w' : World} {e : Ending} (h : GivesSch o w e w') : ∃ Ac nc cc Ak nk ck Au nu cu, e = .returned (.tuple #[.agg #[.slice Ac nc cc, .slice Ak nk ck, .slice Au nu cu], .int .i64 (soN o)]) ∧ Hid (ColsAt w' (.slice Ac nc cc) (soC o) ∧ IntsAt w' (.slice Ak nk ck) (soK o) ∧ ListsAt w' (.slice Au nu cu) (soU o)) ∧ Bel w w' := by
  cases o with
  | none =>
    obtain ⟨h1, h2⟩ := h
    exact ⟨none, 0, 0, none, 0, 0, none, 0, 0, h1, ⟨⟨none, 0, rfl, Nat.le_refl _, Nat.zero_le _, fun h => by simp [soC] at h⟩, ⟨none, 0, rfl, Nat.le_refl _, Nat.zero_le _, fun h => by simp [soK] at h⟩, ⟨none, 0, rfl, Nat.le_refl _, Nat.zero_le _, fun h => by simp [soU] at h⟩⟩, h2⟩
  | some q =>
    obtain ⟨c, k, u⟩ := q
    obtain ⟨vc, vk, vu, h1, h2, h3, h4, h5⟩ := h
    obtain ⟨A1, c1, rfl, -⟩ := id h2
    obtain ⟨A2, c2, rfl, -⟩ := id h3
    obtain ⟨A3, c3, rfl, -⟩ := id h4
    exact ⟨_, _, _, _, _, _, _, _, _, h1, ⟨h2, h3, h4⟩, h5⟩
theorem sameS_self (a : List Col) (k : List Int) (u : List (List Int)) : sameS a a k k u u = true := by simp [sameS]
set_option maxRecDepth 100000 in
set_option maxHeartbeats 16000000 in
theorem kSchemas_any (vc vk vu vb : Value) (cols : List Col) (key : List Int) (uq : List (List Int)) (s : List UInt8) (w : World) (hg : ErrType w) (hc : ColsAt w vc cols) (hk : IntsAt w vk key) (hu : ListsAt w vu uq) (hb : BsAt w vb s)
    (hnm : ∀ c ∈ cols, c.name.size ≤ maxLen) : Calls Tryz.prog 13 #[.agg #[vc, vk, vu], vb] w fun e w' => e = .returned (.bool true) ∧ Bel w w' := by
  have hb0 : Bel w (w.alloc (.cells #[vc, vk, vu] 26)) := (Bel.refl w).alloc _
  have HFW := Lib.hid (fun V (hb : Bel w V) => kfew_any vc vk vu cols key uq V (hc.bel hb) (hk.bel hb) (hu.bel hb) hnm)
  have HW := Lib.hid (fun V (hb : Bel w V) => kworks_any V (hg.bel hb))
  have hnm2 : ∀ c ∈ cols, c.name.size ≤ 9223372036854775807 := fun c hc => by have := hnm c hc; unfold maxLen at this; omega
  have HCL : Hid (∀ V, Bel (w.alloc (.cells #[vc, vk, vu] 26)) V → V.cell? ⟨w.heap.size, 0, none⟩ = some vc ∧ V.cell? ⟨w.heap.size, 1, none⟩ = some vk ∧ V.cell? ⟨w.heap.size, 2, none⟩ = some vu) := fun V h => ⟨h.c (by go_simp), h.c (by go_simp), h.c (by go_simp)⟩
  have HS1 := Lib.hid (fun V (h : Bel w V) => cdEncodeSchema_any vc vk vu cols key uq V (hc.bel h) (hk.bel h) (hu.bel h))
  have HS2 := Lib.hid (fun V (h : Bel w V) => r4EncodeSchema_any vc vk vu cols key uq V (hc.bel h) (hk.bel h) (hu.bel h) hnm2)
  have HD1 := Lib.hid (fun (hm : s.length ≤ 600) V (h : Bel w V) => cdDecodeSchema_any vb s (by omega) V (hb.bel h))
  have HD2 := Lib.hid (fun (hm : s.length ≤ 600) V (h : Bel w V) => r4DecodeSchema_any vb s (by omega) V (hb.bel h))
  have HC0 := Lib.hid (And.intro hc (And.intro hk hu))
  have HBS := Lib.hid hb
  obtain ⟨Ab, cb, rfl, hbn, hbm, -⟩ := hb
  have hsI : (s.length : Int) ≤ 9223372036854775807 := by unfold maxLen at hbm; omega
  clear hg hc hk hu hnm hnm2 hbn hbm
  cases hf : fewB cols key uq
  · rw [hf] at HFW
    clear hf
    go_enter Tryz.func13, Tryz.ntmps13
    go_wp2_with (first | (go_at_call 34; refine (HFW.out _ hb0).mono ?_; rintro e w4 ⟨rfl, hb4⟩) | (go_at_call 36; refine (HW.out _ (hb0.then_ hb4)).mono ?_; rintro e w9 ⟨rfl, hb9⟩))
    go_ret
    exact ⟨rfl, (hb0.then_ hb4).then_ hb9⟩
  · rw [hf] at HFW
    clear hf
    by_cases hs : s.length ≤ 600
    case neg =>
      have hsb : (600 : Int) < s.length := by omega
      clear hs
      go_enter Tryz.func13, Tryz.ntmps13
      go_wp2_with (first | (go_at_call 34; refine (HFW.out _ hb0).mono ?_; rintro e w4 ⟨rfl, hb4⟩) | (go_at_call 36; refine (HW.out _ (hb0.then_ hb4)).mono ?_; rintro e w9 ⟨rfl, hb9⟩))
      go_ret
      exact ⟨rfl, (hb0.then_ hb4).then_ hb9⟩
    case pos =>
      have hsb : decide ((600 : Int) < s.length) = false := by simp; omega
      have HD1 := Lib.hid (HD1.out hs)
      have HD2 := Lib.hid (HD2.out hs)
      obtain ⟨B, no, hE⟩ : ∃ a b, encSR cols key uq = (a, b) := ⟨_, _, rfl⟩
      have HPD : Hid (no = 0 → B.length ≤ 1000000 ∧ decS B = some (cols, key, uq)) := fun h => by
        unfold encSR at hE
        by_cases hr : rightS cols key uq = true
        · rw [if_pos hr] at hE
          injection hE with h1 h2
          subst h1
          exact ⟨encSch_len hr, decS_enc hr⟩
        · rw [if_neg hr] at hE
          injection hE with h1 h2
          omega
      rw [hE] at HS1 HS2
      dsimp only at HS1 HS2
      obtain ⟨D, hD⟩ : ∃ D, decS s = D := ⟨_, rfl⟩
      rw [hD] at HD1 HD2
      obtain ⟨nt, hnt⟩ : ∃ x, x = soN D := ⟨_, rfl⟩
      have HPL : Hid (nt = 0 → encSR (soC D) (soK D) (soU D) = (s, 0)) := fun h => by
        cases D with
        | none => rw [hnt] at h; exact absurd h (by decide)
        | some q =>
          obtain ⟨c, k, u⟩ := q
          obtain ⟨h1, h2⟩ := decS_some hD
          show encSR c k u = _
          unfold encSR
          rw [if_pos h1, h2]
      have HNT := Lib.hid hnt
      clear hD hE hnt hs
      go_enter Tryz.func13, Tryz.ntmps13
      go_wp2_with (go_at_call 34; refine (HFW.out _ hb0).mono ?_; rintro e w4 ⟨rfl, hb4⟩; obtain ⟨q0, q1, q2⟩ := HCL.out w4 hb4)
      refine (HS1.out _ (hb0.then_ hb4)).mono ?_
      rintro e w5 ⟨v5, rfl, hv5, hb5⟩
      have HV5 := Lib.hid hv5
      obtain ⟨A5, c5, rfl, -⟩ := hv5
      obtain ⟨q0, q1, q2⟩ := HCL.out w5 (hb4.then_ hb5)
      have HB5 := Lib.hid (hb4.then_ hb5)
      clear hb4 hb5 HFW HS1
      go_wp2_with fail
      refine (HS2.out _ (hb0.then_ HB5.out)).mono ?_
      rintro e w6 ⟨v6, rfl, hv6, hb6⟩
      have HV6 := Lib.hid hv6
      have HV5 := Lib.hid (HV5.out.bel hb6)
      obtain ⟨A6, c6, rfl, -⟩ := hv6
      have HB6 := Lib.hid (HB5.out.then_ hb6)
      clear hb6 HS2 q0 q1 q2
      go_wp2_with fail
      refine (HD1.out _ (hb0.then_ HB6.out)).mono ?_
      rintro e w7 h7
      obtain ⟨Ac, nc, cc, Ak, nk, ck, Au, nu, cu, rfl, HX, hb7⟩ := givesSch_open h7
      rw [← HNT.out]
      obtain ⟨W7, hW7⟩ : ∃ V, V = w7.alloc (.cells #[.slice Ac nc cc, .slice Ak nk ck, .slice Au nu cu] 26) := ⟨_, rfl⟩
      have hb7' : Bel w7 W7 := by rw [hW7]; exact (Bel.refl _).alloc _
      have HXL : Hid (∀ V, Bel W7 V → V.cell? ⟨w7.heap.size, 0, none⟩ = some (.slice Ac nc cc) ∧ V.cell? ⟨w7.heap.size, 1, none⟩ = some (.slice Ak nk ck) ∧ V.cell? ⟨w7.heap.size, 2, none⟩ = some (.slice Au nu cu)) := fun V h => ⟨h.c (by rw [hW7]; go_simp), h.c (by rw [hW7]; go_simp), h.c (by rw [hW7]; go_simp)⟩
      have hlt7 : w7.heap.size < W7.heap.size := by rw [hW7]; simp
      have HB7 := Lib.hid (HB6.out.then_ (hb7.then_ hb7'))
      have HV5 := Lib.hid (HV5.out.bel (hb7.then_ hb7'))
      have HV6 := Lib.hid (HV6.out.bel (hb7.then_ hb7'))
      have HX := Lib.hid (And.intro (HX.out.1.bel hb7') (And.intro (HX.out.2.1.bel hb7') (HX.out.2.2.bel hb7')))
      clear hb7 hb7' h7 HD1
      go_wp2_with fail
      rw [← hW7]
      clear hW7
      refine (HD2.out _ (hb0.then_ HB7.out)).mono ?_
      rintro e w8 h8
      obtain ⟨Ad, nd, cd, Al, nl, cl, Av, nv, cv, rfl, HY, hb8⟩ := givesSch_open h8
      rw [← HNT.out]
      have hb8' : Bel w8 (w8.alloc (.cells #[.slice Ad nd cd, .slice Al nl cl, .slice Av nv cv] 26)) := (Bel.refl _).alloc _
      have hlt : w7.heap.size < w8.heap.size := Nat.lt_of_lt_of_le hlt7 hb8.size
      obtain ⟨x0, x1, x2⟩ := HXL.out _ (hb8.then_ hb8')
      obtain ⟨y0, y1, y2⟩ := HXL.out _ hb8
      have HB8 := Lib.hid (HB7.out.then_ (hb8.then_ hb8'))
      have HV5 := Lib.hid (HV5.out.bel (hb8.then_ hb8'))
      have HV6 := Lib.hid (HV6.out.bel (hb8.then_ hb8'))
      have HXL := Lib.hid (fun V (h : Bel (w8.alloc (.cells #[.slice Ad nd cd, .slice Al nl cl, .slice Av nv cv] 26)) V) => HXL.out V ((hb8.then_ hb8').then_ h))
      have HX := Lib.hid (And.intro (HX.out.1.bel (hb8.then_ hb8')) (And.intro (HX.out.2.1.bel (hb8.then_ hb8')) (HX.out.2.2.bel (hb8.then_ hb8'))))
      have HY := Lib.hid (And.intro (HY.out.1.bel hb8') (And.intro (HY.out.2.1.bel hb8') (HY.out.2.2.bel hb8')))
      have HSX := tSame_any _ _ _ _ _ _ _ _ _ _ _ _ _ HX.out.1 HX.out.2.1 HX.out.2.2 HY.out.1 HY.out.2.1 HY.out.2.2
      rw [sameS_self] at HSX
      have HSX := Lib.hid HSX
      have hc5 : (convert 63 9 (.slice A5 B.length c5)).run Tryz.prog (w8.alloc (.cells #[.slice Ad nd cd, .slice Al nl cl, .slice Av nv cv] 26)) = .ok (.string ⟨B.toArray⟩) (w8.alloc (.cells #[.slice Ad nd cd, .slice Al nl cl, .slice Av nv cv] 26)) := by
        obtain ⟨A, c, he, -, -, hr⟩ := HV5.out
        injection he with e1 e2 e3
        subst e1 e3
        exact conv_reads (s := B) _ hr
      have hc6 : (convert 63 9 (.slice A6 B.length c6)).run Tryz.prog (w8.alloc (.cells #[.slice Ad nd cd, .slice Al nl cl, .slice Av nv cv] 26)) = .ok (.string ⟨B.toArray⟩) (w8.alloc (.cells #[.slice Ad nd cd, .slice Al nl cl, .slice Av nv cv] 26)) := by
        obtain ⟨A, c, he, -, -, hr⟩ := HV6.out
        injection he with e1 e2 e3
        subst e1 e3
        exact conv_reads (s := B) _ hr
      clear hb8 hb8' h8 HD2 hlt7
      by_cases h0 : nt = 0
      · subst h0
        have HP2 := HPL.out rfl
        clear HPL
        go_wp2_with (first | (go_at_call 27; refine HSX.out.mono ?_; rintro e w9 ⟨rfl, hb9⟩; obtain ⟨g0, g1, g2⟩ := HXL.out _ hb9) | (go_at_call 41; refine (knum_any _ _).mono ?_; rintro e w' ⟨rfl, rfl⟩))
        have HE := cdEncodeSchema_any _ _ _ _ _ _ w9 (HX.out.1.bel hb9) (HX.out.2.1.bel hb9) (HX.out.2.2.bel hb9)
        rw [HP2] at HE
        dsimp only at HE
        refine HE.mono ?_
        rintro e w10 ⟨v10, rfl, hv10, hb10⟩
        obtain ⟨A10, c10, rfl, -, -, r10⟩ := hv10
        have HB10 := Lib.hid ((hb0.then_ HB8.out).then_ (hb9.then_ hb10))
        have HV5 := Lib.hid (HV5.out.bel (hb9.then_ hb10))
        have h10 : (convert 63 9 (.slice A10 s.length c10)).run Tryz.prog w10 = .ok (.string ⟨s.toArray⟩) w10 := conv_reads (s := s) _ r10
        have h11 : (convert 63 9 (.slice Ab s.length cb)).run Tryz.prog w10 = .ok (.string ⟨s.toArray⟩) w10 := by
          obtain ⟨A, c, he, -, -, hr⟩ := HBS.out.bel HB10.out
          injection he with e1 e2 e3
          subst e1 e3
          exact conv_reads (s := s) _ hr
        have HCW := Lib.hid (HB8.out.then_ (hb9.then_ hb10))
        clear HP2 HE r10 x0 x1 x2 y0 y1 y2 g0 g1 g2 hc5 hc6 HSX HXL HX HY
        by_cases hno : no = 0
        · obtain ⟨hB, hDB⟩ := HPD.out hno
          subst hno
          clear HPD
          go_wp2_with ((go_at_call 41; refine (knum_any _ _).mono ?_; rintro e w' ⟨rfl, rfl⟩))
          have HZ := cdDecodeSchema_any _ B hB _ HV5.out
          rw [hDB] at HZ
          refine HZ.mono ?_
          rintro e w12 h12
          obtain ⟨Ac', nc', cc', Ak', nk', ck', Au', nu', cu', rfl, HZZ, hb12⟩ := givesSch_open h12
          obtain ⟨W12, hW12⟩ : ∃ V, V = w12.alloc (.cells #[.slice Ac' nc' cc', .slice Ak' nk' ck', .slice Au' nu' cu'] 26) := ⟨_, rfl⟩
          have hb12' : Bel w12 W12 := by rw [hW12]; exact (Bel.refl _).alloc _
          have HB12 := Lib.hid (HB10.out.then_ (hb12.then_ hb12'))
          obtain ⟨q0, q1, q2⟩ := HCL.out w12 (HCW.out.then_ hb12)
          have hlt12 : w.heap.size < w12.heap.size := by have h1 := (HCW.out.then_ hb12).size; simp at h1; omega
          have HSZ := tSame_any _ _ _ _ _ _ _ _ _ _ _ _ W12 (HZZ.out.1.bel hb12') (HZZ.out.2.1.bel hb12') (HZZ.out.2.2.bel hb12') (HC0.out.1.bel HB12.out) (HC0.out.2.1.bel HB12.out) (HC0.out.2.2.bel HB12.out)
          rw [show sameS (soC (some (cols, key, uq))) cols (soK (some (cols, key, uq))) key (soU (some (cols, key, uq))) uq = true from sameS_self _ _ _] at HSZ
          have HSZ := Lib.hid HSZ
          clear hb12 hb12' h12 HZ hDB HV5 HZZ hB
          go_wp2_with (first | (go_at_call 27; rw [← hW12]; refine HSZ.out.mono ?_; rintro e w13 ⟨rfl, hb13⟩) | (go_at_call 41; refine (knum_any _ _).mono ?_; rintro e w' ⟨rfl, rfl⟩) | (go_at_call 36; refine (HW.out _ (HB12.out.then_ hb13)).mono ?_; rintro e w14 ⟨rfl, hb14⟩))
          go_ret
          exact ⟨rfl, (HB12.out.then_ hb13).then_ hb14⟩
        · have hn1 : (no != 0) = true := by rw [bne_iff_ne]; exact hno
          clear hno HPD
          go_wp2_with (first | (go_at_call 41; refine (knum_any _ _).mono ?_; rintro e w' ⟨rfl, rfl⟩) | (go_at_call 36; refine (HW.out _ HB10.out).mono ?_; rintro e w11 ⟨rfl, hb11⟩))
          go_ret
          exact ⟨rfl, HB10.out.then_ hb11⟩
      · have hn0 : (nt == 0) = false := by rw [beq_eq_false_iff_ne]; exact h0
        clear HPL
        by_cases hno : no = 0
        · obtain ⟨hB, hDB⟩ := HPD.out hno
          subst hno
          clear HPD
          go_wp2_with ((first | (go_at_call 27; refine HSX.out.mono ?_; rintro e w9 ⟨rfl, hb9⟩; have HB10 := Lib.hid ((hb0.then_ HB8.out).then_ hb9); have HCW := Lib.hid (HB8.out.then_ hb9); have HV5 := Lib.hid (HV5.out.bel hb9)) | (go_at_call 41; refine (knum_any _ _).mono ?_; rintro e w' ⟨rfl, rfl⟩)))
          have HZ := cdDecodeSchema_any _ B hB _ HV5.out
          rw [hDB] at HZ
          refine HZ.mono ?_
          rintro e w12 h12
          obtain ⟨Ac', nc', cc', Ak', nk', ck', Au', nu', cu', rfl, HZZ, hb12⟩ := givesSch_open h12
          obtain ⟨W12, hW12⟩ : ∃ V, V = w12.alloc (.cells #[.slice Ac' nc' cc', .slice Ak' nk' ck', .slice Au' nu' cu'] 26) := ⟨_, rfl⟩
          have hb12' : Bel w12 W12 := by rw [hW12]; exact (Bel.refl _).alloc _
          have HB12 := Lib.hid (HB10.out.then_ (hb12.then_ hb12'))
          obtain ⟨q0, q1, q2⟩ := HCL.out w12 (HCW.out.then_ hb12)
          have hlt12 : w.heap.size < w12.heap.size := by have h1 := (HCW.out.then_ hb12).size; simp at h1; omega
          have HSZ := tSame_any _ _ _ _ _ _ _ _ _ _ _ _ W12 (HZZ.out.1.bel hb12') (HZZ.out.2.1.bel hb12') (HZZ.out.2.2.bel hb12') (HC0.out.1.bel HB12.out) (HC0.out.2.1.bel HB12.out) (HC0.out.2.2.bel HB12.out)
          rw [show sameS (soC (some (cols, key, uq))) cols (soK (some (cols, key, uq))) key (soU (some (cols, key, uq))) uq = true from sameS_self _ _ _] at HSZ
          have HSZ := Lib.hid HSZ
          clear hb12 hb12' h12 HZ hDB HV5 HZZ hB
          go_wp2_with (first | (go_at_call 27; rw [← hW12]; refine HSZ.out.mono ?_; rintro e w13 ⟨rfl, hb13⟩) | (go_at_call 41; refine (knum_any _ _).mono ?_; rintro e w' ⟨rfl, rfl⟩) | (go_at_call 36; refine (HW.out _ (HB12.out.then_ hb13)).mono ?_; rintro e w14 ⟨rfl, hb14⟩))
          go_ret
          exact ⟨rfl, (HB12.out.then_ hb13).then_ hb14⟩
        · have hn1 : (no != 0) = true := by rw [bne_iff_ne]; exact hno
          clear hno HPD
          go_wp2_with (first | (first | (go_at_call 27; refine HSX.out.mono ?_; rintro e w9 ⟨rfl, hb9⟩; have HB10 := Lib.hid ((hb0.then_ HB8.out).then_ hb9); have HCW := Lib.hid (HB8.out.then_ hb9); have HV5 := Lib.hid (HV5.out.bel hb9)) | (go_at_call 41; refine (knum_any _ _).mono ?_; rintro e w' ⟨rfl, rfl⟩)) | (go_at_call 36; refine (HW.out _ HB10.out).mono ?_; rintro e w11 ⟨rfl, hb11⟩))
          go_ret
          exact ⟨rfl, HB10.out.then_ hb11⟩
end Go.Proofs.YtkklmflclmgjeaaGreatDoor
