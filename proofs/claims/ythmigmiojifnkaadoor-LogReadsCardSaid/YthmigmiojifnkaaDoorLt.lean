/-
  The law's told: how many records a log has, which are the first ones of a list.
-/
import Derived.Test.YthmigmiojifnkaaDoorLv
import Derived.Test.YthmigmiojifnkaaDoorQr
set_option linter.unusedVariables false
set_option linter.unusedSimpArgs false
set_option linter.unusedVariables false
set_option linter.unusedSimpArgs false
namespace Go.Proofs.YthmigmiojifnkaaDoor
open Go.RowKit Go.Shelf
attribute [local go_sem] Oper.semAt_some

/-- A list of byte lists, as a slice of slices reads. -/
def ListAt (w : World) (A : Option Addr) (L : List (List UInt8)) : Prop :=
  ∃ vs : List Value, vs.length = L.length ∧ (0 < L.length → ∃ g off, A = some ⟨g, off, none⟩ ∧ g < w.heap.size ∧ ∀ j u, vs[j]? = some u → w.cell? ⟨g, off + j, none⟩ = some u) ∧
    ∀ (i : Nat) (s : List UInt8), L[i]? = some s → ∃ (Ai : Option Addr) (ci : Nat), vs[i]? = some (.slice Ai s.length ci) ∧ Reads w w.heap.size 1 Ai s.length (s.map bv)
theorem ListAt.bel {w w' : World} {A : Option Addr} {L : List (List UInt8)} (h : ListAt w A L) (hb : Bel w w') : ListAt w' A L := by
  obtain ⟨vs, h1, h2, h3⟩ := h
  refine ⟨vs, h1, fun hn => ?_, fun i s hi => ?_⟩
  · obtain ⟨g, off, e, hg, hc⟩ := h2 hn
    exact ⟨g, off, e, Nat.lt_of_lt_of_le hg hb.size, fun j u hu => hb.c (hc j u hu)⟩
  · obtain ⟨Ai, ci, e, r⟩ := h3 i s hi
    exact ⟨Ai, ci, e, r.belHeap hb⟩
/-- The law's own cells: the list, the two results, the count. -/
def ToldC (B : Nat) (l : Value) (n : Int) (V : World) : Prop := V.cell? ⟨B, 0, none⟩ = some l ∧ V.cell? ⟨B + 1, 0, none⟩ = some (.int .i64 0) ∧ V.cell? ⟨B + 1 + 1, 0, none⟩ = some (.bool false) ∧ V.cell? ⟨B + 1 + 1 + 1 + 1 + 1, 0, none⟩ = some (.int .i64 n) ∧
  V.frozen? ⟨B + 1, 0, none⟩ = false ∧ V.frozen? ⟨B + 1 + 1, 0, none⟩ = false ∧ V.frozen? ⟨B + 1 + 1 + 1 + 1 + 1, 0, none⟩ = false
theorem ToldC.kept {B : Nat} {l : Value} {n : Int} {V V' : World} {row : Option Nat} (h : ToldC B l n V) (hg : V.grownBy V' row) (hr : ∀ r, row = some r → ∃ o : Obj, V.heap[r]? = some o ∧ o.isCells = false) : ToldC B l n V' :=
  ⟨cell_kept h.1 hg hr, cell_kept h.2.1 hg hr, cell_kept h.2.2.1 hg hr, cell_kept h.2.2.2.1 hg hr, (frozen_kept h.2.1 hg hr).trans h.2.2.2.2.1, (frozen_kept h.2.2.1 hg hr).trans h.2.2.2.2.2.1, (frozen_kept h.2.2.2.1 hg hr).trans h.2.2.2.2.2.2⟩
theorem rowsFrom_snd : ∀ (xs : List (List UInt8)) (a : Nat), (rowsFrom a xs).map (·.2) = xs
  | [], _ => rfl
  | x :: xs, a => by rw [rowsFrom, List.map_cons, rowsFrom_snd xs]
theorem ToldC.set {B : Nat} {l : Value} {n : Int} {V : World} (h : ToldC B l n V) (n' : Int) : ToldC B l n' (V.setCell ⟨B + 1 + 1 + 1 + 1 + 1, 0, none⟩ (.int .i64 n')) := by
  obtain ⟨r0, r1, r2, r3, f1, f2, f3⟩ := h
  exact ⟨by go_simp, by go_simp, by go_simp, by go_simp, by go_simp, by go_simp, by go_simp⟩
set_option maxRecDepth 100000 in
set_option maxHeartbeats 4000000 in
theorem told_any {w : World} {bl bd : Nat} {m : DM} {file en tn : Int} {fd : Nat → Prop} (h : LogIs w bl bd m file en tn fd) (hfit : Fit m) (h0 : 0 ≤ file) (h64 : file < 64)
    (xs : List (List UInt8)) (t : List UInt8) (hx : ∀ x ∈ xs, x.length ≤ 60000) (ht : firstL t = none) (hs : m.files file = recsN xs ++ t) (A : Option Addr) (cap : Nat) (L : List (List UInt8)) (hL : ListAt w A L) (hxs : xs = L.take xs.length) (hLl : L.length ≤ 1000) :
    Calls Tryd.prog 25 #[.pointer (some ⟨bl, 0, none⟩), .slice A L.length cap] w fun e w' => e = .returned (.tuple #[.int .i64 xs.length, .bool true]) ∧ Bel w w' := by
  have hnf := fun (f : Fn) (a b : Array Value) (w : World) => (show (binOp .eql 75 (.func f a b) .nilFunc).run Tryd.prog w = .ok (.bool false) w by kernel_rfl)
  refine calls_of_wp_marks 12 Tryd.func25 rfl ?_
  simp only [Tryd.ntmps25, List.size_toArray, List.length_cons, List.length_nil, Nat.reduceAdd, Nat.reduceSub, Array.replicate_succ, Array.replicate_zero, List.push_toArray, List.append_toArray, List.nil_append, List.cons_append]
  have hLb := Lib.hid hL
  obtain ⟨W, hW⟩ : ∃ W, W = (((((w.alloc (.cells #[.slice A L.length cap] 55)).alloc (.cells #[.int .i64 0] 3)).alloc (.cells #[.bool false] 4)).alloc (.cells #[.pointer (some ⟨bl, 0, none⟩)] 49)).alloc (.cells #[.int .i64 0] 3)).alloc (.cells #[.int .i64 0] 3) := ⟨_, rfl⟩
  have hbW : Bel w W := by rw [hW]; exact ((((((Bel.refl w).alloc _).alloc _).alloc _).alloc _).alloc _).alloc _
  have hszW : W.heap.size = w.heap.size + 6 := by rw [hW]; simp
  have hres : ToldC w.heap.size (.slice A L.length cap) 0 W := by rw [hW]; exact ⟨by go_simp, by go_simp, by go_simp, by go_simp, by go_simp, by go_simp, by go_simp⟩
  have hc1 : W.cell? ⟨w.heap.size + 3, 0, none⟩ = some (.pointer (some ⟨bl, 0, none⟩)) := by rw [hW]; go_simp
  have hc2 : W.cell? ⟨w.heap.size + 4, 0, none⟩ = some (.int .i64 0) := by rw [hW]; go_simp
  have hlW := h.bel hbW
  have hbl : bl < w.heap.size := (Array.getElem?_eq_some_iff.1 h.blk).1
  have hseq := each_seq 11 (by omega) hlW hfit h0 h64 (n₀ := w.heap.size + 5) (B1 := w.heap.size + 3) (B2 := w.heap.size + 4) (by omega) (fun b hb => by have := h.tight b hb; omega) (by omega) (by omega) (by omega) hc1 hc2 xs t hx ht hs
  have HSZ := Lib.hid hszW
  have HBW := Lib.hid hbW
  have hgi : ∀ (i : Nat) (p : Nat × List UInt8) (pre rest : List (Nat × List UInt8)), rowsFrom 0 xs = pre ++ p :: rest → L[pre.length]? = some p.2 := fun i p pre rest e => by
    have e1 := congrArg (List.map (·.2)) e
    rw [rowsFrom_snd] at e1
    rw [List.map_append, List.map_cons] at e1
    have e2 : xs[pre.length]? = some p.2 := by rw [e1, List.getElem?_append_right (by simp)]; simp
    have hlt := (List.getElem?_eq_some_iff.1 e2).1
    rw [hxs, List.getElem?_take, if_pos hlt] at e2
    exact e2
  have hrl : (rowsFrom 0 xs).length = xs.length := by have := congrArg List.length (rowsFrom_snd xs 0); simpa using this
  have HGI := Lib.hid hgi
  have HRL := Lib.hid hrl
  have HXS := Lib.hid hxs
  clear hx ht hs hfit hgi hrl hc1 hc2 hL hxs
  go_wp2_with (go_at_call 35; refine (each_any _ 0 ⟨_, rfl⟩ _).mono ?_; rintro e w' ⟨rfl, rfl⟩)
  rw [← hW]
  refine wp_seqr_round 12 (by omega) (gf := 67) (bd := #[]) (lb := #[.pointer (some ⟨w.heap.size + 3, 0, none⟩), .pointer (some ⟨w.heap.size + 4, 0, none⟩)]) rfl (enters_of Tryd.func67 (by kernel_rfl) rfl) hseq (by have := HSZ.out; omega) (Below.refl _ _) (fun p vs V hE => by obtain ⟨A, e, _⟩ := hE; simp at e; rw [e]; rfl)
    (fun pre V => ToldC w.heap.size (.slice A L.length cap) pre.length V ∧ Bel w V)
    (fun c pre V => False)
    ?hI ?hIx ELog.own ⟨hres, hbW⟩ ?hround ?hdone ?hstop
  case hI => exact OwnFrom.and (fun pre A B row hs hg hr => hs.kept hg (fun r e => (hr r e).2)) (ownFrom_below (Nat.le_refl _) (by omega))
  case hIx => exact fun c pre A B row hs hg hr => hs
  case hround =>
    intro l p vs V hE
    obtain ⟨A', hvs, hb⟩ := hE
    dsimp only at hvs hb
    subst hvs
    gi_wp2
    refine ⟨(by first | rfl | trivial), fun l pre rest Wb hxs hl hlo hi hEb => ?_⟩
    obtain ⟨A2, hvs, hbb⟩ := hEb
    obtain ⟨⟨r0, r1, r2, r3, f1, f2, f3⟩, hbel⟩ := hi
    have hAA : A2 = A' := by simp at hvs; exact hvs.symm
    subst hAA
    have hLn := HGI.out 0 p pre rest hxs
    have hnl := (List.getElem?_eq_some_iff.1 hLn).1
    obtain ⟨vs, hvl, hrd, hat⟩ := hLb.out.bel hbel
    obtain ⟨Ai, ci, hvi, hri⟩ := hat _ _ hLn
    obtain ⟨g, off, hA, hadb, hcs⟩ := hrd (by omega)
    have hcu := hcs _ _ hvi
    subst hA
    have cv1 : ∀ k, (convert 31 9 (.slice A2 p.2.length p.2.length)).run Tryd.prog (Wb.drewN k) = .ok (.string ⟨p.2.toArray⟩) (Wb.drewN k) := fun k => conv_string (hbb.bel ((Bel.refl Wb).drewN k))
    have cv2 : ∀ k, (convert 31 9 (.slice Ai p.2.length ci)).run Tryd.prog (Wb.drewN k) = .ok (.string ⟨p.2.toArray⟩) (Wb.drewN k) := fun k => conv_reads ci (hri.drewN k)
    have HBEL := Lib.hid hbel
    have hnI : (pre.length : Int) < L.length := by omega
    have hLI : (L.length : Int) ≤ 1000 := by omega
    have hge : decide ((L.length : Int) ≤ pre.length) = false := by simp; omega
    have RES : Hid (ToldC w.heap.size (.slice (some ⟨g, off, none⟩) L.length cap) pre.length Wb) := ⟨r0, r1, r2, r3, f1, f2, f3⟩
    have hsn : ((pre ++ [p]).length : Int) = pre.length + 1 := by simp
    have HSN := Lib.hid hsn
    clear hbb hbel hvs hb hseq hlW hres hszW hbW hW hrd hat hcs hLn hvi hri hxs hLb hsn
    gi_wp2
    refine quiet_region (by kernel_rfl) (by kernel_rfl) (by kernel_rfl) ?_
    repeat (quiet_step_in (fail))
    refine wpQuietIn_nil ?_
    intro _ hw'
    obtain ⟨nq, hw''⟩ := hw'
    subst hw''
    gi_wp2
    refine ⟨(KeepsOthers.trans (⟨Nat.le_refl _, fun _ _ h _ => h⟩ : KeepsOthers Wb (Wb.drewN nq)) (KeepsOthers.setCell _ _ _)).from _, ⟨?_, fun k hk _ => ?_⟩, ?_, ?_⟩
    · exact (⟨rfl, rfl, rfl, Nat.le_refl _, fun _ _ => rfl⟩ : Below (w.heap.size + 5) Wb (Wb.drewN nq)).setCell (by show w.heap.size + 5 ≤ w.heap.size + 1 + 1 + 1 + 1 + 1; omega) _
    · exact Below.heap_setCell _ _ _ _ (by have := HSZ.out; show k ≠ w.heap.size + 1 + 1 + 1 + 1 + 1; omega)
    · rw [HSN.out]
      exact (show ToldC w.heap.size _ _ (Wb.drewN nq) from RES.out).set _
    · exact (HBEL.out.drewN nq).setCell (by simp; omega) _
  case hdone =>
    intro D V hD hi hdf
    obtain ⟨⟨r0, r1, r2, r3, f1, f2, f3⟩, hbel⟩ := hi
    rw [HRL.out] at r3
    have HDF := Lib.hid hdf
    have HBEL := Lib.hid hbel
    have HDD : Hid (w.heap.size ≤ D) := by show _ ≤ _; have := HSZ.out; omega
    clear hdf hbel hD hseq hlW hres hLb hW hbW hszW
    go_wp2
    have d1 := heap_setCell_deferred ⟨w.heap.size + 1, 0, none⟩ (.int .i64 xs.length) HDF.out
    have d2 := heap_setCell_deferred ⟨w.heap.size + 1 + 1, 0, none⟩ (.bool true) d1
    have e1 : ((V.setCell ⟨w.heap.size + 1, 0, none⟩ (.int .i64 xs.length)).setCell ⟨w.heap.size + 1 + 1, 0, none⟩ (.bool true)).cell? ⟨w.heap.size + 1, 0, none⟩ = some (.int .i64 xs.length) := by go_simp
    have e2 : ((V.setCell ⟨w.heap.size + 1, 0, none⟩ (.int .i64 xs.length)).setCell ⟨w.heap.size + 1 + 1, 0, none⟩ (.bool true)).cell? ⟨w.heap.size + 1 + 1, 0, none⟩ = some (.bool true) := by go_simp
    have g1 := cell_putDeferred e1 d2 (.deferred none)
    have g2 := cell_putDeferred e2 d2 (.deferred none)
    exact leavesM_collected (D := D) d2 (leavesM_nil (v := .tuple #[.int .i64 xs.length, .bool true]) (by simp [results, Tryd.results25, go_sem, g1, g2]) ⟨rfl, ((HBEL.out.setCell (by simp) _).setCell (by simp; omega) _).putObj HDD.out _⟩)
  case hstop => exact fun D c pre p rest V hD hxs hi hdf => hi.elim
end Go.Proofs.YthmigmiojifnkaaDoor
