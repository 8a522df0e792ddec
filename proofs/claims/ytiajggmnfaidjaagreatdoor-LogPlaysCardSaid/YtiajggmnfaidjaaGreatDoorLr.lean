/-
  The log: Read.
-/
import Derived.Test.YtiajggmnfaidjaaGreatDoorLa
import Derived.BigRegionIn
set_option linter.unusedVariables false
set_option linter.unusedSimpArgs false
set_option linter.unusedVariables false
set_option linter.unusedSimpArgs false
namespace Go.Proofs.YtiajggmnfaidjaaGreatDoor
open Go.RowKit Go.Shelf
attribute [local go_sem] Oper.semAt_some

theorem bytes_kept {A B : World} {v : Value} {s : List UInt8} {fp : Nat → Prop} {row : Option Nat} (h : BytesAt A v s fp) (hg : A.grownBy B row) (hr : ∀ r, row = some r → ∃ o : Obj, A.heap[r]? = some o ∧ o.isCells = false) : BytesAt B v s fp := by
  obtain ⟨A', cap', h1, h2, h3, h4, h4', h5⟩ := h
  refine ⟨A', cap', h1, h2, h3, h4, h4', fun hn => ?_⟩
  obtain ⟨b, off, cs, fz, e1, e2, e3, e4⟩ := h5 hn
  refine ⟨b, off, cs, fz, e1, e2, (hg.block b (Array.getElem?_eq_some_iff.1 e3).1 (fun e => ?_)).trans e3, e4⟩
  obtain ⟨o, ho, hc⟩ := hr b e.symm
  rw [e3] at ho
  cases ho
  simp [Obj.isCells] at hc
theorem ELog.own {n₀ B : Nat} : OwnFrom B (ELog n₀) := fun p V V' row hs hg hr => by
  obtain ⟨A, h1, h2⟩ := hs
  exact ⟨A, h1, bytes_kept h2 hg (fun r e => (hr r e).2)⟩
theorem rows_ge : ∀ (xs : List (List UInt8)) (a : Nat), ∀ q ∈ rowsFrom a xs, a ≤ q.1
  | [], _, q, h => by cases h
  | x :: xs, a, q, h => by
    rcases List.mem_cons.1 h with rfl | h
    · exact Nat.le_refl _
    · have := rows_ge xs _ q h; omega
theorem rows_unique : ∀ (xs : List (List UInt8)) (a : Nat) (p q : Nat × List UInt8), p ∈ rowsFrom a xs → q ∈ rowsFrom a xs → p.1 = q.1 → p = q
  | [], _, p, q, h, _, _ => by cases h
  | x :: xs, a, p, q, hp, hq, e => by
    rcases List.mem_cons.1 hp with rfl | hp
    · rcases List.mem_cons.1 hq with rfl | hq
      · rfl
      · have := rows_ge xs _ q hq; simp at e; omega
    · rcases List.mem_cons.1 hq with rfl | hq
      · have := rows_ge xs _ p hp; simp at e; omega
      · exact rows_unique xs _ p q hp hq e
/-- What reading hands back. -/
def GivesLRead (r : Option (Nat × List UInt8)) (w : World) (e : Ending) (w' : World) : Prop :=
  Bel w w' ∧ match r with
  | some p => ∃ A, e = .returned (.tuple #[.slice A p.2.length p.2.length, .int .i64 ((p.1 : Int) + 8 + p.2.length), .int .i64 0]) ∧ BytesAt w' (.slice A p.2.length p.2.length) p.2 (fun b => w.heap.size ≤ b)
  | none => e = .returned (.tuple #[.slice none 0 0, .int .i64 0, .int .i64 4])
/-- The cells that the results lie in. -/
def ResL (B : Nat) (at_ : Int) (v0 v1 v2 : Value) (V : World) : Prop := V.cell? ⟨B, 0, none⟩ = some (.int .i64 at_) ∧ V.cell? ⟨B + 1, 0, none⟩ = some v0 ∧ V.cell? ⟨B + 1 + 1, 0, none⟩ = some v1 ∧ V.cell? ⟨B + 1 + 1 + 1, 0, none⟩ = some v2 ∧
  V.frozen? ⟨B + 1, 0, none⟩ = false ∧ V.frozen? ⟨B + 1 + 1, 0, none⟩ = false ∧ V.frozen? ⟨B + 1 + 1 + 1, 0, none⟩ = false
theorem ResL.kept {B : Nat} {at_ : Int} {v0 v1 v2 : Value} {V V' : World} {row : Option Nat} (h : ResL B at_ v0 v1 v2 V) (hg : V.grownBy V' row) (hr : ∀ r, row = some r → ∃ o : Obj, V.heap[r]? = some o ∧ o.isCells = false) : ResL B at_ v0 v1 v2 V' :=
  ⟨cell_kept h.1 hg hr, cell_kept h.2.1 hg hr, cell_kept h.2.2.1 hg hr, cell_kept h.2.2.2.1 hg hr, (frozen_kept h.2.1 hg hr).trans h.2.2.2.2.1, (frozen_kept h.2.2.1 hg hr).trans h.2.2.2.2.2.1, (frozen_kept h.2.2.2.1 hg hr).trans h.2.2.2.2.2.2⟩
def NoneAt (at_ : Int) (pre : List (Nat × List UInt8)) : Prop := ∀ q ∈ pre, (q.1 : Int) ≠ at_
theorem NoneAt.snoc {at_ : Int} {pre : List (Nat × List UInt8)} {p : Nat × List UInt8} (h : NoneAt at_ pre) (hp : ¬ (p.1 : Int) = at_) : NoneAt at_ (pre ++ [p]) := fun q hq => by
  rcases List.mem_append.1 hq with hq | hq
  · exact h q hq
  · rw [List.mem_singleton.1 hq]; exact hp
def FoundAt (B : Nat) (at_ : Int) (c : Code) (pre : List (Nat × List UInt8)) (V : World) : Prop :=
  ∃ p A, pre.getLast? = some p ∧ c = .ret ∧ (p.1 : Int) = at_ ∧ ResL B at_ (.slice A p.2.length p.2.length) (.int .i64 ((p.1 : Int) + 8 + p.2.length)) (.int .i64 0) V ∧ BytesAt V (.slice A p.2.length p.2.length) p.2 (fun b => B ≤ b)
theorem rows_le : ∀ (xs : List (List UInt8)) (a : Nat), ∀ q ∈ rowsFrom a xs, q.1 + q.2.length + 8 ≤ a + (recsN xs).length
  | [], _, q, h => by cases h
  | x :: xs, a, q, h => by
    have e : (recsN (x :: xs)).length = (x.length + 8) + (recsN xs).length := by
      show ((x :: xs).flatMap recN).length = _
      rw [List.flatMap_cons, List.length_append, recN_length]
      rfl
    rw [e]
    rcases List.mem_cons.1 h with rfl | h
    · simp; omega
    · have := rows_le xs _ q h; omega
theorem found_of {w Wb : World} {n₀ N : Nat} {at_ : Int} {A : Option Addr} {p : Nat × List UInt8} {pre : List (Nat × List UInt8)} {v0 v1 v2 : Value} (hres : ResL w.heap.size at_ v0 v1 v2 Wb) (hp : (p.1 : Int) = at_) (hbb : BytesAt Wb (.slice A p.2.length p.2.length) p.2 (fun b => n₀ ≤ b)) (hn : w.heap.size + 4 ≤ n₀) (hbel : Bel w Wb) :
    KeepsFrom N Wb (((Wb.drew.setCell ⟨w.heap.size + 1, 0, none⟩ (.slice A p.2.length p.2.length)).setCell ⟨w.heap.size + 1 + 1, 0, none⟩ (.int .i64 (at_ + 8 + p.2.length))).setCell ⟨w.heap.size + 1 + 1 + 1, 0, none⟩ (.int .i64 0)) ∧
      FoundAt w.heap.size at_ .ret (pre ++ [p]) (((Wb.drew.setCell ⟨w.heap.size + 1, 0, none⟩ (.slice A p.2.length p.2.length)).setCell ⟨w.heap.size + 1 + 1, 0, none⟩ (.int .i64 (at_ + 8 + p.2.length))).setCell ⟨w.heap.size + 1 + 1 + 1, 0, none⟩ (.int .i64 0)) ∧
      Bel w (((Wb.drew.setCell ⟨w.heap.size + 1, 0, none⟩ (.slice A p.2.length p.2.length)).setCell ⟨w.heap.size + 1 + 1, 0, none⟩ (.int .i64 (at_ + 8 + p.2.length))).setCell ⟨w.heap.size + 1 + 1 + 1, 0, none⟩ (.int .i64 0)) := by
  obtain ⟨r0, r1, r2, r3, f1, f2, f3⟩ := hres
  refine ⟨(KeepsOthers.trans (KeepsOthers.trans (KeepsOthers.trans (KeepsOthers.drew _) (KeepsOthers.setCell _ _ _)) (KeepsOthers.setCell _ _ _)) (KeepsOthers.setCell _ _ _)).from _, ⟨p, A, by simp, rfl, hp, ?_, ?_⟩, ?_⟩
  · rw [hp]
    exact ⟨by go_simp, by go_simp, by go_simp, by go_simp, by go_simp, by go_simp, by go_simp⟩
  · refine hbb.kept (fun b hb hl => ?_) (fun b hb _ => by omega)
    have h1 : b ≠ w.heap.size + 1 := by omega
    have h2 : b ≠ w.heap.size + 1 + 1 := by omega
    have h3 : b ≠ w.heap.size + 1 + 1 + 1 := by omega
    exact (Below.heap_setCell _ _ _ _ h3).trans ((Below.heap_setCell _ _ _ _ h2).trans (Below.heap_setCell _ _ _ _ h1))
  · exact ((hbel.drew.setCell (by simp) _).setCell (by simp; omega) _).setCell (by simp; omega) _
set_option maxRecDepth 100000 in
set_option maxHeartbeats 4000000 in
theorem lRead_any {w : World} {bl bd : Nat} {m : DM} {file en tn : Int} {fd : Nat → Prop} (h : LogIs w bl bd m file en tn fd) (hfit : Fit m) (h0 : 0 ≤ file) (h64 : file < 64)
    (xs : List (List UInt8)) (t : List UInt8) (hx : ∀ x ∈ xs, x.length ≤ 60000) (ht : firstL t = none) (hs : m.files file = recsN xs ++ t) (at_ : Int) (r : Option (Nat × List UInt8))
    (hr : match r with | some p => p ∈ rowsFrom 0 xs ∧ (p.1 : Int) = at_ | none => ∀ q ∈ rowsFrom 0 xs, (q.1 : Int) ≠ at_) :
    Calls Tryz.prog 15 #[.pointer (some ⟨bl, 0, none⟩), .int .i64 at_] w (GivesLRead r w) := by
  obtain ⟨W, hW⟩ : ∃ W, W = (((w.alloc (.cells #[.int .i64 at_] 3)).alloc (.cells #[.slice none 0 0] 43)).alloc (.cells #[.int .i64 0] 3)).alloc (.cells #[.int .i64 0] 26) := ⟨_, rfl⟩
  have hbW : Bel w W := by rw [hW]; exact ((((Bel.refl w).alloc _).alloc _).alloc _).alloc _
  have hszW : W.heap.size = w.heap.size + 4 := by rw [hW]; simp
  have hres : ResL w.heap.size at_ (.slice none 0 0) (.int .i64 0) (.int .i64 0) W := by rw [hW]; exact ⟨by go_simp, by go_simp, by go_simp, by go_simp, by go_simp, by go_simp, by go_simp⟩
  have hlW := h.bel hbW
  have hbl : bl < w.heap.size := (Array.getElem?_eq_some_iff.1 h.blk).1
  have HN := Lib.hid (lnone_any hlW)
  have hseq := all_seq 11 (by omega) hlW hfit h0 h64 (n₀ := W.heap.size) (by omega) (fun b hb => by have := h.tight b hb; omega) (Nat.le_refl _) xs t hx ht hs
  have hfl : (recsN xs).length ≤ 16777216 := by
    have h1 := len_le_tot m.files file h0 h64
    have h2 := hfit.files
    have h3 := hfit.hi
    have h4 := congrArg List.length hs
    rw [List.length_append] at h4
    omega
  have HSZ := Lib.hid hszW
  have HBW := Lib.hid hbW
  clear hx ht hs hfit
  refine calls_of_wp_marks 12 Tryz.func15 rfl ?_
  simp only [Tryz.ntmps15, List.size_toArray, List.length_cons, List.length_nil, Nat.reduceAdd, Nat.reduceSub, Array.replicate_succ, Array.replicate_zero, List.push_toArray, List.append_toArray, List.nil_append, List.cons_append]
  go_wp2_with (go_at_call 38; rw [← hW]; refine HN.out.mono ?_; rintro e w' ⟨rfl, rfl⟩)
  rw [← hW]
  refine wp_seqr_round 12 (by omega) (gf := 39) (bd := #[.pointer (some ⟨bl, 0, none⟩)]) (lb := #[]) rfl (enters_of Tryz.func39 (by kernel_rfl) rfl) hseq (Nat.le_refl _) (Below.refl _ _) (fun p vs V hE => by obtain ⟨A, e, _⟩ := hE; simp at e; rw [e]; rfl)
    (fun pre V => (ResL w.heap.size at_ (.slice none 0 0) (.int .i64 0) (.int .i64 0) V ∧ NoneAt at_ pre) ∧ Bel w V)
    (fun c pre V => FoundAt w.heap.size at_ c pre V ∧ Bel w V)
    ?hI ?hIx ELog.own ⟨⟨hres, (fun q hq => by cases hq)⟩, hbW⟩ ?hround ?hdone ?hstop
  case hI => exact OwnFrom.and (fun pre A B row hs hg hr => ⟨hs.1.kept hg (fun r e => (hr r e).2), hs.2⟩) (ownFrom_below (Nat.le_refl _) (by omega))
  case hIx =>
    intro c
    refine OwnFrom.and (fun pre A B row hs hg hr => ?_) (ownFrom_below (Nat.le_refl _) (by omega))
    obtain ⟨p, A, h1, h2, h3, h4, h5⟩ := hs
    exact ⟨p, A, h1, h2, h3, h4.kept hg (fun r e => (hr r e).2), bytes_kept h5 hg (fun r e => (hr r e).2)⟩
  case hround =>
    intro l p vs V hE
    obtain ⟨A, hvs, hb⟩ := hE
    dsimp only at hvs hb
    subst hvs
    gi_wp2
    refine ⟨(by first | rfl | trivial), fun l pre rest Wb hxs hl hlo hi hEb => ?_⟩
    obtain ⟨A', hvs, hbb⟩ := hEb
    obtain ⟨⟨⟨r0, r1, r2, r3, f1, f2, f3⟩, hne⟩, hbel⟩ := hi
    by_cases heq : (p.1 : Int) = at_
    · have heqb : ((p.1 : Int) == at_) = true := by simpa using heq
      have hple := rows_le xs 0 p (by rw [hxs]; simp)
      have hw1 : IntKind.i64.wrap (at_ + 8) = at_ + 8 := IntWalk.i64_in _ (by omega)
      have hw2 : IntKind.i64.wrap (at_ + 8 + p.2.length) = at_ + 8 + p.2.length := IntWalk.i64_in _ (by omega)
      have RES : Hid (ResL w.heap.size at_ (.slice none 0 0) (.int .i64 0) (.int .i64 0) Wb) := ⟨r0, r1, r2, r3, f1, f2, f3⟩
      have hAA : A' = A := by simp at hvs; exact hvs.symm
      subst hAA
      have HBB := Lib.hid hbb
      have HN0 : Hid (w.heap.size + 4 ≤ W.heap.size) := by show _ ≤ _; have := HSZ.out; omega
      have HBEL := Lib.hid hbel
      clear hple hbb hbel hvs hne hb hseq hlW hres hr hszW hbW hW
      gi_wp2
      gi_region
      all_goals
        gi_wp2
        exact found_of RES.out heq HBB.out HN0.out HBEL.out
    · have heqb : ((p.1 : Int) == at_) = false := beq_eq_false_iff_ne.2 heq
      gi_wp2
      refine ⟨KeepsFrom.refl _ _, Own.refl _ _ _, ⟨⟨r0, r1, r2, r3, f1, f2, f3⟩, hne.snoc heq⟩, hbel⟩
  case hdone =>
    intro D V hD hi hdf
    obtain ⟨⟨⟨r0, r1, r2, r3, f1, f2, f3⟩, hne⟩, hbel⟩ := hi
    have hrn : r = none := by
      cases r with
      | none => rfl
      | some p => exact absurd hr.2 (hne p hr.1)
    subst hrn
    have HDF := Lib.hid hdf
    have HBEL := Lib.hid hbel
    have HDD : Hid (w.heap.size ≤ D) := by show _ ≤ _; have := HSZ.out; omega
    clear hdf hbel hD hr hne hseq hlW hres
    go_wp2
    have d1 := heap_setCell_deferred ⟨w.heap.size + 1, 0, none⟩ (.slice none 0 0) HDF.out
    have d2 := heap_setCell_deferred ⟨w.heap.size + 1 + 1, 0, none⟩ (.int .i64 0) d1
    have d3 := heap_setCell_deferred ⟨w.heap.size + 1 + 1 + 1, 0, none⟩ (.int .i64 4) d2
    have e1 : (((V.setCell ⟨w.heap.size + 1, 0, none⟩ (.slice none 0 0)).setCell ⟨w.heap.size + 1 + 1, 0, none⟩ (.int .i64 0)).setCell ⟨w.heap.size + 1 + 1 + 1, 0, none⟩ (.int .i64 4)).cell? ⟨w.heap.size + 1, 0, none⟩ = some (.slice none 0 0) := by go_simp
    have e2 : (((V.setCell ⟨w.heap.size + 1, 0, none⟩ (.slice none 0 0)).setCell ⟨w.heap.size + 1 + 1, 0, none⟩ (.int .i64 0)).setCell ⟨w.heap.size + 1 + 1 + 1, 0, none⟩ (.int .i64 4)).cell? ⟨w.heap.size + 1 + 1, 0, none⟩ = some (.int .i64 0) := by go_simp
    have e3 : (((V.setCell ⟨w.heap.size + 1, 0, none⟩ (.slice none 0 0)).setCell ⟨w.heap.size + 1 + 1, 0, none⟩ (.int .i64 0)).setCell ⟨w.heap.size + 1 + 1 + 1, 0, none⟩ (.int .i64 4)).cell? ⟨w.heap.size + 1 + 1 + 1, 0, none⟩ = some (.int .i64 4) := by go_simp
    have g1 := cell_putDeferred e1 d3 (.deferred none)
    have g2 := cell_putDeferred e2 d3 (.deferred none)
    have g3 := cell_putDeferred e3 d3 (.deferred none)
    exact leavesM_collected (D := D) d3 (leavesM_nil (v := .tuple #[.slice none 0 0, .int .i64 0, .int .i64 4]) (by simp [results, Tryz.results15, go_sem, g1, g2, g3]) ⟨(((HBEL.out.setCell (by simp) _).setCell (by simp; omega) _).setCell (by simp; omega) _).putObj HDD.out _, rfl⟩)
  case hstop =>
    intro D c pre p rest V hD hxs hi hdf
    obtain ⟨⟨p', A, hl, rfl, hp, ⟨r0, r1, r2, r3, f1, f2, f3⟩, hb⟩, hbel⟩ := hi
    have hpp : p' = p := by simpa using hl.symm
    subst hpp
    have hrs : r = some p' := by
      have hmem : p' ∈ rowsFrom 0 xs := by rw [hxs]; simp
      cases r with
      | none => exact absurd hp (hr p' hmem)
      | some q => rw [rows_unique xs 0 q p' hr.1 hmem (by have := hr.2; omega)]
    subst hrs
    have HDF := Lib.hid hdf
    have HBEL := Lib.hid hbel
    have HB := Lib.hid hb
    have HDD : Hid (w.heap.size ≤ D) := by show _ ≤ _; have := HSZ.out; omega
    clear hdf hbel hD hr hseq hlW hres hb
    go_wp2
    have g1 := cell_putDeferred r1 HDF.out (.deferred none)
    have g2 := cell_putDeferred r2 HDF.out (.deferred none)
    have g3 := cell_putDeferred r3 HDF.out (.deferred none)
    refine leavesM_collected (D := D) HDF.out (leavesM_nil (v := .tuple #[.slice A p'.2.length p'.2.length, .int .i64 ((p'.1 : Int) + 8 + p'.2.length), .int .i64 0]) (by simp [results, Tryz.results15, go_sem, g1, g2, g3]) ⟨HBEL.out.putObj HDD.out _, A, rfl, ?_⟩)
    exact bytes_kept HB.out (grownBy_putObj' V D _) (fun r e => by cases e; exact ⟨_, HDF.out, rfl⟩)
end Go.Proofs.YtiajggmnfaidjaaGreatDoor
