/-
  The document's disk: Sync.
-/
import Derived.Test.YthmigmiojifnkaaDoorRd2
set_option linter.unusedVariables false
set_option linter.unusedSimpArgs false
set_option linter.unusedVariables false
set_option linter.unusedSimpArgs false
namespace Go.Proofs.YthmigmiojifnkaaDoor
open Go.RowKit

/-- Three blocks: the disk's, the result's, the files'. -/
structure Three (w wr : World) (cs : Array Value) (m : DM) (k : Nat) (c : Array Value) : Prop where
  bel : Bel w wr
  fst : wr.heap[w.heap.size]? = some (.cells cs 37 (0, 0))
  snd : wr.heap[w.heap.size + 1]? = some (.cells Tryd.zeroCells37 37 (0, 0))
  thd : wr.heap[w.heap.size + 1 + 1]? = some (.cells c 34 (0, 0))
  size : c.size = 64
  done : ∀ j : Nat, j < k → c[j]? = some (.string ⟨(m.files j).toArray⟩)
theorem three_start (w : World) (cs : Array Value) (m : DM) (Z : Array Value) (hZ : Z.size = 64) : Three w (((w.alloc (.cells cs 37)).alloc (.cells Tryd.zeroCells37 37)).alloc (.cells Z 34)) cs m 0 Z := by
  have hb : Bel (two w cs) ((two w cs).alloc (.cells Z 34)) := (Bel.refl _).alloc _
  refine ⟨(two_bel w cs).then_ hb, hb.deferred (two_fst w cs), hb.deferred (two_snd w cs), ?_, hZ, fun j hj => absurd hj (by omega)⟩
  have := World.alloc_heap_new (two w cs) (.cells Z 34)
  rw [show (two w cs).heap.size = w.heap.size + 1 + 1 by simp [two]] at this
  exact this
theorem Three.then_ {w wr w2 : World} {cs : Array Value} {m : DM} {k : Nat} {c : Array Value} (h : Three w wr cs m k c) (hb : Bel wr w2) : Three w w2 cs m k c := ⟨h.bel.then_ hb, hb.deferred h.fst, hb.deferred h.snd, hb.deferred h.thd, h.size, h.done⟩
theorem Three.put {w wr : World} {cs : Array Value} {m : DM} {k : Nat} {c : Array Value} (h : Three w wr cs m k c) (hk : k < 64) : Three w (wr.setCell ⟨w.heap.size + 1 + 1, k, none⟩ (.string ⟨(m.files k).toArray⟩)) cs m (k + 1) (c.setIfInBounds k (.string ⟨(m.files k).toArray⟩)) := by
  refine ⟨h.bel.setCell (by show w.heap.size ≤ w.heap.size + 1 + 1; omega) _, ?_, ?_, Blk.set_ h.thd k _, by rw [Array.size_setIfInBounds]; exact h.size, fun j hj => ?_⟩
  · rw [Below.heap_setCell _ _ _ _ (by show w.heap.size ≠ w.heap.size + 1 + 1; omega)]; exact h.fst
  · rw [Below.heap_setCell _ _ _ _ (by show w.heap.size + 1 ≠ w.heap.size + 1 + 1; omega)]; exact h.snd
  · by_cases he : j = k
    · subst he
      rw [Array.getElem?_setIfInBounds_self_of_lt (by rw [h.size]; exact hk)]
    · rw [Array.getElem?_setIfInBounds_ne (fun e => he e.symm)]
      exact h.done j (by omega)
theorem fold_set (f : Array Value → Value × Nat → Array Value) (hf : f = fun cs x => cs.setIfInBounds (1 + x.2) x.1) : ∀ (l : List Value) (i : Nat) (Z : Array Value), 1 + i + l.length ≤ Z.size →
    ((l.zipIdx i).foldl f Z).size = Z.size ∧ ∀ j : Nat, ((l.zipIdx i).foldl f Z)[j]? = if 1 + i ≤ j ∧ j < 1 + i + l.length then l[j - 1 - i]? else Z[j]?
  | [], i, Z, h => ⟨rfl, fun j => by rw [if_neg (by simp)]; rfl⟩
  | x :: l, i, Z, h => by
    have hl : 1 + (i + 1) + l.length ≤ (f Z (x, i)).size := by rw [hf, Array.size_setIfInBounds]; simp at h; omega
    obtain ⟨h1, h2⟩ := fold_set f hf l (i + 1) (f Z (x, i)) hl
    rw [List.zipIdx_cons, List.foldl_cons]
    refine ⟨by rw [h1, hf, Array.size_setIfInBounds], fun j => ?_⟩
    rw [h2 j]
    simp only [List.length_cons] at h ⊢
    by_cases hj : 1 + (i + 1) ≤ j ∧ j < 1 + (i + 1) + l.length
    · rw [if_pos hj, if_pos (by omega), show j - 1 - i = (j - 1 - (i + 1)) + 1 by omega, List.getElem?_cons_succ]
    · rw [if_neg hj]
      by_cases he : j = 1 + i
      · subst he
        rw [if_pos (by omega), show 1 + i - 1 - i = 0 by omega, hf, Array.getElem?_setIfInBounds_self_of_lt (by omega)]
        rfl
      · rw [if_neg (by omega), hf, Array.getElem?_setIfInBounds_ne (fun e => he e.symm)]
/-- The cells of a disk whose synced files are c. -/
noncomputable def laidR (room : Int) (c : Array Value) : Array Value := Array.foldl (fun cs x => cs.setIfInBounds (1 + x.snd) x.fst) (Tryd.zeroCells37.setIfInBounds 0 (.int .i64 room)) c.zipIdx 0 64
theorem laidR_cells (room : Int) (c : Array Value) (syn : Nat → List UInt8) (hc : c.size = 64) (hd : ∀ j, j < 64 → c[j]? = some (.string ⟨(syn j).toArray⟩)) : RCells (laidR room c) room syn (.slice none 0 0) := by
  have hz : Tryd.zeroCells37.size = 66 := by kernel_rfl
  have e : laidR room c = (c.toList.zipIdx 0).foldl (fun cs x => cs.setIfInBounds (1 + x.2) x.1) (Tryd.zeroCells37.setIfInBounds 0 (.int .i64 room)) := by
    unfold laidR
    have h64 : (64 : Nat) = c.zipIdx.size := by simp [hc]
    rw [h64, ← Array.foldl_toList, Array.toList_zipIdx]
  obtain ⟨h1, h2⟩ := fold_set _ rfl c.toList 0 (Tryd.zeroCells37.setIfInBounds 0 (.int .i64 room)) (by rw [Array.size_setIfInBounds, hz, Array.length_toList, hc]; decide)
  rw [← e] at h1 h2
  have hcl : c.toList.length = 64 := by rw [Array.length_toList, hc]
  refine ⟨by rw [h1, Array.size_setIfInBounds, hz], ?_, fun f hf => ?_, ?_⟩
  · rw [h2, if_neg (by omega), Array.getElem?_setIfInBounds_self_of_lt (by rw [hz]; omega)]
  · rw [h2, if_pos (by omega), show 1 + f - 1 - 0 = f by omega, Array.getElem?_toList]
    exact hd f hf
  · rw [h2, if_neg (by omega), Array.getElem?_setIfInBounds_ne (by omega)]
    kernel_rfl
set_option maxRecDepth 100000 in
set_option maxHeartbeats 1000000 in
theorem rdSync_any {w : World} {cs : Array Value} {m : DM} (h : RDis w cs m) (hfit : RFit m) :
    Calls Tryd.prog 43 #[.agg cs] w fun e w' => ∃ cs', e = .returned (.agg cs') ∧ RDis w' cs' m.sync ∧ Bel w w' := by
  have H := Lib.hid h
  have HFIT := Lib.hid hfit
  have HSZ := Lib.hid h.info
  clear h hfit
  go_enter Tryd.func43, Tryd.ntmps43
  go_wp2
  go_loopw [4] (fun i wr => ∃ (k : Nat) (c : Array Value), k ≤ 64 ∧ i = .int .i64 k ∧ Hid (Three w wr cs m k c)) (fun i _ => 64 - (intOf i).toNat)
  case atStart => exact ⟨0, _, Nat.zero_le _, rfl, three_start w cs m _ rfl⟩
  case round =>
    obtain ⟨k, c, hk, rfl, HT⟩ := hrel
    by_cases hlt : k < 64
    · have HF := Lib.hid (rdFile_any (H.out.bel HT.out.bel) HFIT.out k hlt)
      have HA := Lib.hid HT.out.fst
      have hkI : (k : Int) < 64 := by omega
      go_wp2_with (first | (refine wpList_load_row rfl 37 _ rfl w.heap.size rfl _ cs (0, 0) _ HA.out Tryd.underlying37 rfl HSZ.out ?_) | (go_at_call 60; refine HF.out.mono ?_; rintro e w2 ⟨rfl, hb2⟩; have HT2 := Lib.hid (HT.out.then_ hb2); have z1 := Blk.cell HT2.out.thd k; have z2 := Blk.frozen HT2.out.thd k; rw [Array.getElem?_eq_getElem (by rw [HT2.out.size]; exact hlt)] at z1; clear hb2))
      go_roundw
      case rel => exact ⟨k + 1, _, by omega, by go_num, HT2.out.put hlt⟩
      case measure => simp [intOf]; omega
    · obtain rfl : k = 64 := by omega
      have HA := Lib.hid HT.out.fst
      have HC := Lib.hid HT.out.thd
      have HSC : Hid ((Tryd.prog.info? 34).map (·.size) = some c.size) := by show _ = _; rw [HT.out.size]; kernel_rfl
      have q0 : wr.cell? ⟨w.heap.size, 0, none⟩ = some (.int .i64 m.room) := by obtain ⟨A, cap, hc, hr⟩ := H.out; rw [Blk.cell HT.out.fst 0]; exact hc.room
      have hcs := HT.out.size
      have hcl := laidR_cells m.room c (fun f => m.files f) hcs HT.out.done
      have HCL := Lib.hid hcl
      have HB := Lib.hid HT.out.snd
      have HLI : Hid ((Tryd.prog.info? 37).map (·.size) = some (laidR m.room c).size) := by show _ = _; rw [hcl.size]; kernel_rfl
      have HLZ : Hid (Tryd.zeroCells37.size = (laidR m.room c).size) := by show _ = _; rw [hcl.size]; kernel_rfl
      have HLO : Hid ((laidR m.room c).all (·.oneCell') = true) := hcl.one
      clear hcl
      go_wp2_with (first | (refine wpList_load_row rfl 34 _ rfl (w.heap.size + 1 + 1) rfl _ c (0, 0) _ HC.out Tryd.underlying34 rfl HSC.out ?_) | (refine wpList_store_row rfl 37 _ _ rfl (w.heap.size + 1) (laidR m.room c) rfl rfl _ _ HB.out HLI.out HLZ.out HLO.out ?_))
      have hb' : Bel w (wr.setRow (w.heap.size + 1) (laidR m.room c)) := below_setRow HT.out.bel (by omega) _
      exact bodyPost_ret (v := .agg (laidR m.room c)) (results_cell_row rfl _ _ (w.heap.size + 1) _ _ _ _ rfl (setRow_heap _ _ _ _ _ _ HB.out) Tryd.underlying37 rfl HLI.out) rfl ⟨_, rfl, ⟨none, 0, HCL.out, fun h => absurd h (by simp [DM.sync])⟩, hb'⟩
end Go.Proofs.YthmigmiojifnkaaDoor
