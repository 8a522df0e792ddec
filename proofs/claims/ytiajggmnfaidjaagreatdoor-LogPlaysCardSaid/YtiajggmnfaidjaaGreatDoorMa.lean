/-
  The law's is: whether a log stands as the document's.
-/
import Derived.Test.YtiajggmnfaidjaaGreatDoorLu
import Derived.Test.YtiajggmnfaidjaaGreatDoorRk
import Derived.Test.YtiajggmnfaidjaaGreatDoorLt
set_option linter.unusedVariables false
set_option linter.unusedSimpArgs false
set_option linter.unusedVariables false
set_option linter.unusedSimpArgs false
namespace Go.Proofs.YtiajggmnfaidjaaGreatDoor
open Go.RowKit Go.Shelf
attribute [local go_sem] Oper.semAt_some

theorem rows_get {xs : List (List UInt8)} {k : Nat} {x : List UInt8} (h : xs[k]? = some x) : (rowsFrom 0 xs)[k]? = some ((recsN (xs.take k)).length, x) ∧ (rowsFrom 0 xs).take k = rowsFrom 0 (xs.take k) := by
  obtain ⟨rest, e⟩ := rows_split h
  have hk := (List.getElem?_eq_some_iff.1 h).1
  have hl : (rowsFrom 0 (xs.take k)).length = k := by rw [rows_length, List.length_take]; omega
  rw [e]
  refine ⟨?_, List.take_left' hl⟩
  rw [List.getElem?_append_right (by omega), hl, Nat.sub_self]
  rfl
theorem rowsAt_start (xs : List (List UInt8)) (a : Int) : ∃ k0, k0 ≤ xs.length ∧ rowsAt (rowsFrom 0 xs) a = (rowsFrom 0 xs).drop k0 ∧ (k0 < xs.length → a = (recsN (xs.take k0)).length) ∧ (k0 = xs.length → ∀ q ∈ rowsFrom 0 xs, (q.1 : Int) ≠ a) := by
  by_cases h : ∃ k x, xs[k]? = some x ∧ ((recsN (xs.take k)).length : Int) = a
  · obtain ⟨k, x, hx, ha⟩ := h
    have hk := (List.getElem?_eq_some_iff.1 hx).1
    obtain ⟨h1, h2⟩ := rows_get hx
    refine ⟨k, by omega, rowsAt_hit _ k _ h1 ha ?_, fun _ => ha.symm, fun e => by omega⟩
    rw [h2]
    intro q hq
    have := rows_le _ 0 q hq
    omega
  · have hn : ∀ q ∈ rowsFrom 0 xs, (q.1 : Int) ≠ a := fun q hq e => by
      obtain ⟨k, hk⟩ := List.getElem?_of_mem hq
      have hkl := (List.getElem?_eq_some_iff.1 hk).1
      rw [rows_length] at hkl
      obtain ⟨x, hx⟩ : ∃ x, xs[k]? = some x := ⟨_, List.getElem?_eq_getElem hkl⟩
      have := (rows_get hx).1
      rw [hk] at this
      cases this
      exact h ⟨k, x, hx, e⟩
    exact ⟨xs.length, Nat.le_refl _, by rw [rowsAt_none hn, List.drop_eq_nil_of_le (by rw [rows_length]; omega)], fun h => absurd h (by omega), fun _ => hn⟩
theorem ite_maxM (a b : Int) : (if a ≤ b then b else a) = max a b := by split <;> omega
theorem ite_minM (a b : Int) : (if a ≤ b then a else b) = min a b := by split <;> omega
/-- The law's own cell: the count. -/
def CountC (B : Nat) (n : Int) (V : World) : Prop := V.cell? ⟨B, 0, none⟩ = some (.int .i64 n) ∧ V.frozen? ⟨B, 0, none⟩ = false
theorem CountC.kept {B : Nat} {n : Int} {V V' : World} {row : Option Nat} (h : CountC B n V) (hg : V.grownBy V' row) (hr : ∀ r, row = some r → ∃ o : Obj, V.heap[r]? = some o ∧ o.isCells = false) : CountC B n V' :=
  ⟨cell_kept h.1 hg hr, (frozen_kept h.1 hg hr).trans h.2⟩
theorem CountC.set {B : Nat} {n : Int} {V : World} (h : CountC B n V) (n' : Int) : CountC B n' (V.setCell ⟨B, 0, none⟩ (.int .i64 n')) := by
  obtain ⟨r, f⟩ := h
  exact ⟨by go_simp, by go_simp⟩
set_option maxRecDepth 100000 in
set_option maxHeartbeats 4000000 in
theorem is10_any {w : World} {bl bd : Nat} {m : DM} {file tn : Int} {fd : Nat → Prop} (h : LogIs w bl bd m file (m.files file).length tn fd) (hfit : RFit m) (h0 : 0 ≤ file) (h64 : file < 64)
    (xs : List (List UInt8)) (hx : ∀ x ∈ xs, x.length ≤ 60000) (hs : m.files file = recsN xs) (cs : Array Value) (hr : RLog w cs m file tn) (from_ many : Int) :
    Calls Tryz.prog 12 #[.pointer (some ⟨bl, 0, none⟩), .agg cs, .int .i64 from_, .int .i64 many] w fun e w' => e = .returned (.bool true) ∧ Bel w w' := by
  have hnf := fun (f : Fn) (a b : Array Value) (w : World) => (show (binOp .eql 78 (.func f a b) .nilFunc).run Tryz.prog w = .ok (.bool false) w by kernel_rfl)
  have hsz68 : (Tryz.prog.info? 38).map (·.size) = some cs.size := by obtain ⟨ds, hd, rfl⟩ := id hr; rw [Array.size_append, hd.size]; kernel_rfl
  have HSZ := Lib.hid hsz68
  clear hsz68
  obtain ⟨W, hW⟩ : ∃ W, W = ((w.alloc (.cells cs 38)).alloc (.cells #[.int .i64 many] 3)).alloc (.cells #[.bool false] 4) := ⟨_, rfl⟩
  have hbW : Bel w W := by rw [hW]; exact (((Bel.refl w).alloc _).alloc _).alloc _
  have hszW : W.heap.size = w.heap.size + 3 := by rw [hW]; simp
  have hblk : W.heap[w.heap.size]? = some (.cells cs 38 (0, 0)) := by rw [hW]; exact (((Bel.refl (w.alloc (.cells cs 38))).alloc _).alloc _).deferred (World.alloc_heap_new w _)
  have hmany : W.cell? ⟨w.heap.size + 1, 0, none⟩ = some (.int .i64 many) := by rw [hW]; go_simp
  have hres : W.cell? ⟨w.heap.size + 1 + 1, 0, none⟩ = some (.bool false) ∧ W.frozen? ⟨w.heap.size + 1 + 1, 0, none⟩ = false := by rw [hW]; exact ⟨by go_simp, by go_simp⟩
  have HFR := Lib.hid (r10From_any (hr.bel hbW) hfit h0 h64 xs [] hx rfl (by simpa using hs) from_)
  have HBLK := Lib.hid hblk
  have HMANY := Lib.hid hmany
  have HRES := Lib.hid hres
  have HBW := Lib.hid hbW
  have HSW := Lib.hid hszW
  have HR := Lib.hid hr
  have HFIT := Lib.hid hfit
  have HL := Lib.hid h
  have HX := Lib.hid hx
  have HS := Lib.hid hs
  clear hbW hszW hblk hmany hres h hfit hr hx hs
  subst hW
  refine calls_of_wp_marks 12 Tryz.func12 rfl ?_
  simp only [Tryz.ntmps12, List.size_toArray, List.length_cons, List.length_nil, Nat.reduceAdd, Nat.reduceSub, Array.replicate_succ, Array.replicate_zero, List.push_toArray, List.append_toArray, List.nil_append, List.cons_append]
  go_wp2_with (first
               | (refine wpList_load_row rfl 38 _ rfl w.heap.size rfl _ cs (0, 0) _ HBLK.out Tryz.underlying38 rfl HSZ.out ?_)
               | (go_at_call 30; refine HFR.out.mono ?_; rintro e w1 ⟨v, rfl, hv, hb1⟩
                  obtain ⟨A, c, rfl, hcl, hv'⟩ := id hv
                  have HV := Lib.hid hv
                  have HB1 := Lib.hid hb1
                  clear hv hv' hb1 hcl)
               | (go_at_call 31; refine (each_any _ from_ ⟨_, rfl⟩ _).mono ?_; rintro e w' ⟨rfl, rfl⟩))
  obtain ⟨l, rfl⟩ : ∃ l : List Value, cs = l.toArray := ⟨cs.toList, by simp⟩
  obtain ⟨W2, hW2⟩ : ∃ W2, W2 = ((w1.alloc (.cells #[.slice A (rowsAt (rowsFrom 0 xs) from_).length c] 75)).alloc (.cells #[.pointer (some ⟨bl, 0, none⟩)] 29)).alloc (.cells #[.int .i64 from_] 3) := ⟨_, rfl⟩
  rw [← hW2]
  have hb2 : Bel w1 W2 := by rw [hW2]; exact (((Bel.refl w1).alloc _).alloc _).alloc _
  have HS2 : Hid (W2.heap.size = w1.heap.size + 3) := by show _ = _; rw [hW2]; simp
  have HC0 : Hid (W2.cell? ⟨w1.heap.size, 0, none⟩ = some (.slice A (rowsAt (rowsFrom 0 xs) from_).length c)) := by show _ = _; rw [hW2]; go_simp
  have HC1 : Hid (W2.cell? ⟨w1.heap.size + 1, 0, none⟩ = some (.pointer (some ⟨bl, 0, none⟩))) := by show _ = _; rw [hW2]; go_simp
  have HC2 : Hid (W2.cell? ⟨w1.heap.size + 1 + 1, 0, none⟩ = some (.int .i64 from_)) := by show _ = _; rw [hW2]; go_simp
  clear hW2
  have hbD : Bel (((w.alloc (.cells l.toArray 38)).alloc (.cells #[.int .i64 many] 3)).alloc (.cells #[.bool false] 4)) W2.drew := (HB1.out.then_ hb2).drew
  have hbwD : Bel w W2.drew := HBW.out.then_ hbD
  have HBD := Lib.hid hbD
  have HBWD := Lib.hid hbwD
  have HKEEP : Hid (∀ V, Bel W2.drew V → (fun V : World => V.rangeAt w.heap.size 0 l ∧ V.cell? ⟨w.heap.size, 67, none⟩ = some (.int .i64 tn)) V) := fun V hV => by
    have hk := (HBD.out.then_ hV).deferred HBLK.out
    obtain ⟨ds, hd, e⟩ := HR.out
    refine ⟨fun j v hv => ?_, ?_⟩
    · rw [Nat.zero_add, Blk.cell hk j]
      simpa using hv
    · rw [Blk.cell hk 67, e, Array.getElem?_append_right (by rw [hd.size]; omega), hd.size]
      rfl
  have hu65 := Tryz.underlying38
  have hi65 : (Tryz.prog.info? 38).map (·.size) = some l.length := by simpa using HSZ.out
  have HE := Lib.hid (lend_any (HL.out.bel hbwD))
  have HRE := Lib.hid (r10End_any (HR.out.bel hbwD) HFIT.out h0 h64)
  have HTO := Lib.hid (fun V (hV : Bel W2.drew V) => ltorn_any (HL.out.bel (HBWD.out.then_ hV)))
  have hS0 := HKEEP.out _ (Bel.refl _)
  have HB2 := Lib.hid hb2.drew
  clear hb2 hbD hbwD
  refine wp_region_noPanic ?_
  refine wp_region_held_drew (S := (fun V : World => V.rangeAt w.heap.size 0 l ∧ V.cell? ⟨w.heap.size, 67, none⟩ = some (.int .i64 tn))) (by kernel_rfl) ?_ (fun hH0 => ?_)
  · (try dsimp only); (first | assumption | exact hS0 | exact HKEEP.out _ (by assumption))
  refine wpAnyH_take (i := 0) (oi := _) (v := ?v0) rfl (by kernel_rfl) (by kernel_rfl) (by kernel_rfl) ?hq0 (Or.inl ⟨by rfl, ?hy0⟩) (by assumption) ?rest0
  case hq0 => exact fun _ _ _ h => h
  case hy0 => (intro w hSw; (try dsimp only at hSw); go_simp; try with_reducible rfl)
  try simp only [Act.put, List.setIfInBounds_toArray, List.set_cons_zero, List.set_cons_succ]
  refine wpAnyH_take (i := 1) (oi := _) (v := ?v1) rfl (by kernel_rfl) (by kernel_rfl) (by kernel_rfl) ?hq1 (Or.inl ⟨by rfl, ?hy1⟩) (by assumption) ?rest1
  case hq1 => exact fun _ _ _ h => h
  case hy1 => (intro w hSw; (try dsimp only at hSw); go_simp; try with_reducible rfl)
  try simp only [Act.put, List.setIfInBounds_toArray, List.set_cons_zero, List.set_cons_succ]
  refine wpAnyH_take (i := 2) (oi := _) (v := ?v2) rfl (by kernel_rfl) (by kernel_rfl) (by kernel_rfl) ?hq2 (Or.inl ⟨by rfl, ?hy2⟩) (by assumption) ?rest2
  case hq2 => exact fun _ _ _ h => h
  case hy2 => (intro w hSw; (try dsimp only at hSw); go_simp; try with_reducible rfl)
  try simp only [Act.put, List.setIfInBounds_toArray, List.set_cons_zero, List.set_cons_succ]
  refine wpAnyH_take (i := 3) (oi := _) (v := ?v3) rfl (by kernel_rfl) (by kernel_rfl) (by kernel_rfl) ?hq3 (Or.inl ⟨by rfl, ?hy3⟩) (by assumption) ?rest3
  case hq3 => exact fun _ _ _ h => h
  case hy3 => (intro w hSw; (try dsimp only at hSw); go_simp; try with_reducible rfl)
  try simp only [Act.put, List.setIfInBounds_toArray, List.set_cons_zero, List.set_cons_succ]
  refine wpAnyH_take (i := 5) (oi := _) (v := _) rfl (by kernel_rfl) (by kernel_rfl) (by kernel_rfl) ?hq5 (yieldsIf_load_mid (by rfl) _ _ rfl w.heap.size 0 rfl l _ (fun V hV => hV.1) hu65 rfl hi65) (by assumption) ?rest5
  case hq5 => exact fun _ _ _ h => h
  try simp only [Act.put, List.setIfInBounds_toArray, List.set_cons_zero, List.set_cons_succ]
  refine wpAnyH_ready (rs := [4]) (by kernel_rfl) (by simp) ?_
  refine AllReadyH.cons (o := _) rfl (fun K hK => ?_) AllReadyH.nil
  go_simp
  (go_at_call 16; refine HE.out.mono ?_; rintro e w' ⟨rfl, rfl⟩)
  try (go_wp2_with fail)
  refine hK.out _ _ ?_ (fun hH1 => ?_)
  · (try dsimp only); (first | assumption | exact hS0 | exact HKEEP.out _ (by assumption))
  clear hK K hH0
  try simp only [Act.put, List.setIfInBounds_toArray, List.set_cons_zero, List.set_cons_succ]
  refine wpAnyH_ready (rs := [6]) (by kernel_rfl) (by simp) ?_
  refine AllReadyH.cons (o := _) rfl (fun K hK => ?_) AllReadyH.nil
  go_simp
  (go_at_call 32; refine HRE.out.mono ?_; rintro e w3 ⟨rfl, hb3⟩)
  try (go_wp2_with fail)
  refine hK.out _ _ ?_ (fun hH2 => ?_)
  · (try dsimp only); (first | assumption | exact hS0 | exact HKEEP.out _ (by assumption))
  clear hK K hH1
  try simp only [Act.put, List.setIfInBounds_toArray, List.set_cons_zero, List.set_cons_succ]
  refine wpAnyH_take (i := 7) (oi := _) (v := ?v7) rfl (by kernel_rfl) (by kernel_rfl) (by kernel_rfl) ?hq7 (Or.inl ⟨by rfl, ?hy7⟩) (by assumption) ?rest7
  case hq7 => exact fun _ _ _ h => h
  case hy7 => (intro w hSw; (try dsimp only at hSw); go_simp; try with_reducible rfl)
  try simp only [Act.put, List.setIfInBounds_toArray, List.set_cons_zero, List.set_cons_succ]
  refine wpAnyH_take (i := 8) (oi := _) (v := ?v8) rfl (by kernel_rfl) (by kernel_rfl) (by kernel_rfl) ?hq8 (Or.inl ⟨by rfl, ?hy8⟩) (by assumption) ?rest8
  case hq8 => exact fun _ _ _ h => h
  case hy8 => (intro w hSw; (try dsimp only at hSw); go_simp; try with_reducible rfl)
  try simp only [Act.put, List.setIfInBounds_toArray, List.set_cons_zero, List.set_cons_succ]
  refine wpAnyH_take (i := 9) (oi := _) (v := ?v9) rfl (by kernel_rfl) (by kernel_rfl) (by kernel_rfl) ?hq9 (Or.inl ⟨by rfl, ?hy9⟩) (by assumption) ?rest9
  case hq9 => exact fun _ _ _ h => h
  case hy9 => (intro w hSw; (try dsimp only at hSw); go_simp; try with_reducible rfl)
  try simp only [Act.put, List.setIfInBounds_toArray, List.set_cons_zero, List.set_cons_succ]
  refine wpAnyH_take (i := 10) (oi := _) (v := ?v10) rfl (by kernel_rfl) (by kernel_rfl) (by kernel_rfl) ?hq10 (Or.inl ⟨by rfl, ?hy10⟩) (by assumption) ?rest10
  case hq10 => exact fun _ _ _ h => h
  case hy10 => (intro w hSw; (try dsimp only at hSw); go_simp; try with_reducible rfl)
  try simp only [Act.put, List.setIfInBounds_toArray, List.set_cons_zero, List.set_cons_succ]
  refine wpAnyH_take (i := 12) (oi := _) (v := ?v12) rfl (by kernel_rfl) (by kernel_rfl) (by kernel_rfl) ?hq12 (Or.inl ⟨by rfl, ?hy12⟩) (by assumption) ?rest12
  case hq12 => exact fun _ _ _ h => h
  case hy12 => (intro w hSw; (try dsimp only at hSw); go_simp; try with_reducible rfl)
  try simp only [Act.put, List.setIfInBounds_toArray, List.set_cons_zero, List.set_cons_succ]
  refine wpAnyH_take (i := 13) (oi := _) (v := ?v13) rfl (by kernel_rfl) (by kernel_rfl) (by kernel_rfl) ?hq13 (Or.inl ⟨by rfl, ?hy13⟩) (by assumption) ?rest13
  case hq13 => exact fun _ _ _ h => h
  case hy13 => (intro w hSw; (try dsimp only at hSw); go_simp; try with_reducible rfl)
  try simp only [Act.put, List.setIfInBounds_toArray, List.set_cons_zero, List.set_cons_succ]
  refine wpAnyH_ready (rs := [11]) (by kernel_rfl) (by simp) ?_
  refine AllReadyH.cons (o := _) rfl (fun K hK => ?_) AllReadyH.nil
  go_simp
  (go_at_call 19; refine (HTO.out _ hb3).mono ?_; rintro e w' ⟨rfl, rfl⟩)
  try (go_wp2_with fail)
  refine hK.out _ _ ?_ (fun hH3 => ?_)
  · (try dsimp only); (first | assumption | exact hS0 | exact HKEEP.out _ (by assumption))
  clear hK K hH2
  try simp only [Act.put, List.setIfInBounds_toArray, List.set_cons_zero, List.set_cons_succ]
  refine wpAnyH_take (i := 14) (oi := _) (v := ?v14) rfl (by kernel_rfl) (by kernel_rfl) (by kernel_rfl) ?hq14 (Or.inl ⟨by rfl, ?hy14⟩) (by assumption) ?rest14
  case hq14 => exact fun _ _ _ h => h
  case hy14 => (intro w hSw; (try dsimp only at hSw); go_simp; try with_reducible rfl)
  try simp only [Act.put, List.setIfInBounds_toArray, List.set_cons_zero, List.set_cons_succ]
  refine wpAnyH_take (i := 15) (oi := _) (v := ?v15) rfl (by kernel_rfl) (by kernel_rfl) (by kernel_rfl) ?hq15 (Or.inl ⟨by rfl, ?hy15⟩) (by assumption) ?rest15
  case hq15 => exact fun _ _ _ h => h
  case hy15 => (intro w hSw; (try dsimp only at hSw); go_simp; try with_reducible rfl)
  try simp only [Act.put, List.setIfInBounds_toArray, List.set_cons_zero, List.set_cons_succ]
  refine wpAnyH_done (by kernel_rfl) ?_ _
  refine NoPanic.normal ?_
  have HB3 := Lib.hid (HBD.out.then_ hb3)
  have HBW3 := Lib.hid (HBWD.out.then_ hb3)
  have HB23 : Hid (Bel w1 w3) := HB2.out.then_ hb3
  have HW23 : Hid (Bel W2 w3) := (Bel.refl W2).drew.then_ hb3
  have d0 := hb3.c HC0.out
  clear hb3 hS0 HKEEP HRE HTO HE
  obtain ⟨k0, hk0, hrk, hst⟩ := rowsAt_start xs from_
  have hRl : (rowsAt (rowsFrom 0 xs) from_).length ≤ 16777216 := by
    have h1 : (m.files file).length ≤ 16777216 := by rw [HFIT.out.files]; exact HFIT.out.len _ _ h0 h64
    rw [HS.out] at h1
    have h2 : ∀ l : List (List UInt8), l.length ≤ (recsN l).length := fun l => by
      induction l with
      | nil => simp [recsN]
      | cons y l ih => show _ ≤ (recN y ++ recsN l).length; rw [List.length_append, recN_length, List.length_cons]; omega
    have := h2 xs
    rw [hrk, List.length_drop, rows_length]
    omega
  obtain ⟨V0, hV0⟩ : ∃ V0, V0 = w3.alloc (.cells #[.int .i64 0] 3) := ⟨_, rfl⟩
  have hb3V : Bel w3 V0 := by rw [hV0]; exact (Bel.refl w3).alloc _
  have hszV : V0.heap.size = w3.heap.size + 1 := by rw [hV0]; simp
  have hcount : CountC w3.heap.size 0 V0 := by rw [hV0]; exact ⟨by go_simp, by go_simp⟩
  have hs13 : w1.heap.size + 3 ≤ w3.heap.size := by have h1 := HS2.out; have h2 := HB23.out.size; have h3 : W2.heap.size ≤ w3.heap.size := HW23.out.size; omega
  have hlV := (HL.out.bel HBW3.out).bel hb3V
  have hbl : bl < w.heap.size := (Array.getElem?_eq_some_iff.1 HL.out.blk).1
  have hw3 : w.heap.size ≤ w3.heap.size := HBW3.out.size
  have hseq := each_seq_at 11 (by omega) hlV HFIT.out.fit h0 h64 (n₀ := w3.heap.size) (B1 := w1.heap.size + 1) (B2 := w1.heap.size + 1 + 1) (by omega) (fun b hb => by have := HL.out.tight b hb; omega) (by omega) (by omega) (by omega) ((HW23.out.then_ hb3V).c HC1.out) from_ ((HW23.out.then_ hb3V).c HC2.out) xs [] HX.out rfl (by simpa using HS.out) k0 hk0 hst
  rw [← hrk] at hseq
  have HSV := Lib.hid hszV
  have HBV := Lib.hid hb3V
  have HW0 : Hid (w.heap.size + 3 ≤ w3.heap.size) := by show _ ≤ _; have h1 := HB3.out.size; rw [HSW.out] at h1; exact h1
  clear hst hk0 hlV hbl hw3 hrk
  clear hb3V
  go_wp2
  rw [← hV0]
  clear hV0
  generalize hRR : rowsAt (rowsFrom 0 xs) from_ = R at *
  clear hRR
  refine wp_seqr_round 12 (by omega) (gf := 56) (bd := #[]) (lb := #[.pointer (some ⟨w1.heap.size + 1, 0, none⟩), .pointer (some ⟨w1.heap.size + 1 + 1, 0, none⟩)]) rfl (enters_of Tryz.func56 (by kernel_rfl) rfl) hseq (by have := HSV.out; omega) (Below.refl _ _) (fun p vs V hE => by obtain ⟨A, e, _⟩ := hE; simp at e; rw [e]; rfl)
    (fun pre V => CountC w3.heap.size pre.length V ∧ Bel w3 V ∧ (pre.length = 0 ∨ (pre.length : Int) < many))
    (fun c pre V => c = .exit 0 ∧ CountC w3.heap.size pre.length V ∧ Bel w3 V ∧ many ≤ pre.length ∧ (pre.length = 1 ∨ (pre.length : Int) - 1 < many))
    ?hI ?hIx ELog.own ⟨hcount, HBV.out, .inl rfl⟩ ?hround ?hdone ?hstop
  case hI => exact OwnFrom.and (fun pre A B row hs hg hr => hs.kept hg (fun r e => (hr r e).2)) (OwnFrom.and (ownFrom_below (Nat.le_refl _) (by have := HSV.out; omega)) (fun pre A B row hs hg hr => hs))
  case hIx => exact fun c => OwnFrom.and (fun pre A B row hs hg hr => hs) (OwnFrom.and (fun pre A B row hs hg hr => hs.kept hg (fun r e => (hr r e).2)) (OwnFrom.and (ownFrom_below (Nat.le_refl _) (by have := HSV.out; omega)) (fun pre A B row hs hg hr => hs)))
  case hround =>
    intro lp p vs V hE
    obtain ⟨A', hvs, hb⟩ := hE
    dsimp only at hvs hb
    subst hvs
    gi_wp2
    refine ⟨(by first | rfl | trivial), fun lp pre rest Wb hxs hlp hlo hi hEb => ?_⟩
    obtain ⟨A2, hvs, hbb⟩ := hEb
    obtain ⟨⟨r0, f0⟩, hbel, hmn⟩ := hi
    have hAA : A2 = A' := by simp at hvs; exact hvs.symm
    subst hAA
    have hpr : R[pre.length]? = some p := by rw [hxs, List.getElem?_append_right (Nat.le_refl _), Nat.sub_self]; rfl
    have hnl := (List.getElem?_eq_some_iff.1 hpr).1
    obtain ⟨g, off, hA, q0, q1⟩ := (HV.out.bel (HB23.out.then_ hbel)).at_ hpr
    subst hA
    have e0 := hbel.c d0
    have e1 := (HB3.out.then_ hbel).c HMANY.out
    have cv1 : ∀ k, (convert 43 9 (.slice A2 p.2.length p.2.length)).run Tryz.prog (Wb.drewN k) = .ok (.string ⟨p.2.toArray⟩) (Wb.drewN k) := fun k => conv_string (hbb.bel ((Bel.refl Wb).drewN k))
    have HBEL := Lib.hid hbel
    have HCN : Hid (CountC w3.heap.size pre.length Wb) := ⟨r0, f0⟩
    have hnI : (pre.length : Int) < R.length := by omega
    have hnI2 : (pre.length : Int) ≤ 16777216 := by omega
    have hLI : (R.length : Int) ≤ 16777216 := by omega
    have hge : ¬ R.length ≤ pre.length := by omega
    have hged := decide_eq_false hge
    have hsn : ((pre ++ [p]).length : Int) = pre.length + 1 := by simp
    have HSN := Lib.hid hsn
    have HMN := Lib.hid hmn
    clear hbb hbel hvs hb hseq hpr hxs hsn hcount hmn
    gi_wp2
    refine quiet_region (by kernel_rfl) (by kernel_rfl) (by kernel_rfl) ?_
    repeat (quiet_step_in (fail))
    refine wpQuietIn_nil ?_
    intro _ hw'
    obtain ⟨nq, hw''⟩ := hw'
    subst hw''
    have hown : Own w3.heap.size (V0.heap.size + 2) Wb ((Wb.drewN nq).setCell ⟨w3.heap.size, 0, none⟩ (.int .i64 ((pre.length : Int) + 1))) := ⟨(⟨rfl, rfl, rfl, Nat.le_refl _, fun _ _ => rfl⟩ : Below w3.heap.size Wb (Wb.drewN nq)).setCell (Nat.le_refl _) _, fun k hk _ => Below.heap_setCell _ _ _ _ (by have := HSV.out; show k ≠ w3.heap.size; omega)⟩
    have HOW := Lib.hid hown
    have HKO : Hid (KeepsOthers Wb ((Wb.drewN nq).setCell ⟨w3.heap.size, 0, none⟩ (.int .i64 ((pre.length : Int) + 1)))) := KeepsOthers.trans (⟨Nat.le_refl _, fun _ _ h _ => h⟩ : KeepsOthers Wb (Wb.drewN nq)) (KeepsOthers.setCell _ _ _)
    have HC9 : Hid (CountC w3.heap.size ((pre ++ [p]).length : Int) ((Wb.drewN nq).setCell ⟨w3.heap.size, 0, none⟩ (.int .i64 ((pre.length : Int) + 1)))) := by show CountC _ _ _; rw [HSN.out]; exact (show CountC w3.heap.size _ (Wb.drewN nq) from HCN.out).set _
    have HB9 : Hid (Bel w3 ((Wb.drewN nq).setCell ⟨w3.heap.size, 0, none⟩ (.int .i64 ((pre.length : Int) + 1)))) := (HBEL.out.drewN nq).setCell (Nat.le_refl _) _
    have hne : w3.heap.size ≠ w.heap.size + 1 := by have := HW0.out; omega
    clear hown
    by_cases hmy : many ≤ (pre.length : Int) + 1
    · gi_wp2
      exact ⟨HKO.out.from _, rfl, HC9.out, HB9.out, by rw [HSN.out]; exact hmy, by
        have h1 := HMN.out
        have h2 : (pre ++ [p]).length = pre.length + 1 := by simp
        rcases h1 with h1 | h1
        · exact .inl (by omega)
        · exact .inr (by rw [HSN.out]; omega)⟩
    · have hmy2 : (pre.length : Int) + 1 < many := by omega
      rw [HSV.out] at HOW
      gi_wp2
      refine ⟨HKO.out.from _, HOW.out, HC9.out, HB9.out, .inr (by rw [HSN.out]; exact hmy2)⟩
  case hdone =>
    intro D V hD hi hdf
    obtain ⟨⟨r0, f0⟩, hbel, hmn⟩ := hi
    have hfin : ((R.length : Int) == min (R.length : Int) (max 1 many)) = true := by
      rw [beq_iff_eq]
      have hmx : (R.length : Int) ≤ max 1 many := by rcases hmn with h | h <;> omega
      generalize max 1 many = M at *
      omega
    have hpl : (R.length : Int) ≤ 16777216 := by omega
    have HDF := Lib.hid hdf
    have HBE := Lib.hid (HBW3.out.then_ hbel)
    have HDD : Hid (w.heap.size ≤ D) := by show _ ≤ _; have := HSV.out; have := HW0.out; omega
    have e0 := hbel.c d0
    have e1 := (HB3.out.then_ hbel).c HMANY.out
    have e2 := (HB3.out.then_ hbel).c HRES.out.1
    have f2 : V.frozen? ⟨w.heap.size + 1 + 1, 0, none⟩ = false := (Below.frozen (HB3.out.then_ hbel) (by have := HSW.out; show w.heap.size + 1 + 1 < _; omega)).trans HRES.out.2
    clear hseq hcount hdf hbel hmn hD d0
    have hmn := ite_min
    have hmn2 := ite_minM
    obtain ⟨M, hM⟩ : ∃ M, M = max 1 many := ⟨_, rfl⟩
    rw [← hM] at hfin
    have hcm1 : 1 < many → M = many := fun h => by omega
    have hcm2 : ¬ 1 < many → M = 1 := fun h => by omega
    clear hM
    by_cases hlm : 1 < many
    all_goals
      first | (have hMM := hcm1 hlm; subst hMM) | (have hMM := hcm2 hlm; subst hMM)
      clear hcm1 hcm2
      go_wp2
      have d1 := heap_setCell_deferred ⟨w.heap.size + 1 + 1, 0, none⟩ (.bool true) HDF.out
      have e9 : (V.setCell ⟨w.heap.size + 1 + 1, 0, none⟩ (.bool true)).cell? ⟨w.heap.size + 1 + 1, 0, none⟩ = some (.bool true) := by go_simp
      have g1 := cell_putDeferred e9 d1 (.deferred none)
      exact leavesM_collected (D := D) d1 (leavesM_nil (v := .bool true) (by simp [results, Tryz.results12, go_sem, g1]) ⟨rfl, (HBE.out.setCell (by simp; omega) _).putObj HDD.out _⟩)
  case hstop =>
    intro D c pre p rest V hD hxs hi hdf
    obtain ⟨rfl, ⟨r0, f0⟩, hbel, hm1, hm2⟩ := hi
    have hpl : (pre ++ [p]).length ≤ R.length := by rw [hxs]; simp
    have hq1 : 1 ≤ (pre ++ [p]).length := by simp
    generalize (pre ++ [p]).length = q at *
    have hqI : (q : Int) ≤ R.length := by omega
    have hfin : ((q : Int) == min (R.length : Int) (max 1 many)) = true := by
      rw [beq_iff_eq]
      have hmx : max 1 many = (q : Int) := by rcases hm2 with h | h <;> omega
      rw [hmx]
      omega
    have hpl2 : (R.length : Int) ≤ 16777216 := by omega
    have HDF := Lib.hid hdf
    have HBE := Lib.hid (HBW3.out.then_ hbel)
    have HDD : Hid (w.heap.size ≤ D) := by show _ ≤ _; have := HSV.out; have := HW0.out; omega
    have e0 := hbel.c d0
    have e1 := (HB3.out.then_ hbel).c HMANY.out
    have e2 := (HB3.out.then_ hbel).c HRES.out.1
    have f2 : V.frozen? ⟨w.heap.size + 1 + 1, 0, none⟩ = false := (Below.frozen (HB3.out.then_ hbel) (by have := HSW.out; show w.heap.size + 1 + 1 < _; omega)).trans HRES.out.2
    clear hseq hcount hdf hbel hm1 hm2 hD d0 hxs hpl hq1
    have hmn := ite_min
    have hmn2 := ite_minM
    obtain ⟨M, hM⟩ : ∃ M, M = max 1 many := ⟨_, rfl⟩
    rw [← hM] at hfin
    have hcm1 : 1 < many → M = many := fun h => by omega
    have hcm2 : ¬ 1 < many → M = 1 := fun h => by omega
    clear hM
    by_cases hlm : 1 < many
    all_goals
      first | (have hMM := hcm1 hlm; subst hMM) | (have hMM := hcm2 hlm; subst hMM)
      clear hcm1 hcm2
      go_wp2
      have d1 := heap_setCell_deferred ⟨w.heap.size + 1 + 1, 0, none⟩ (.bool true) HDF.out
      have e9 : (V.setCell ⟨w.heap.size + 1 + 1, 0, none⟩ (.bool true)).cell? ⟨w.heap.size + 1 + 1, 0, none⟩ = some (.bool true) := by go_simp
      have g1 := cell_putDeferred e9 d1 (.deferred none)
      exact leavesM_collected (D := D) d1 (leavesM_nil (v := .bool true) (by simp [results, Tryz.results12, go_sem, g1]) ⟨rfl, (HBE.out.setCell (by simp; omega) _).putObj HDD.out _⟩)

end Go.Proofs.YtiajggmnfaidjaaGreatDoor
