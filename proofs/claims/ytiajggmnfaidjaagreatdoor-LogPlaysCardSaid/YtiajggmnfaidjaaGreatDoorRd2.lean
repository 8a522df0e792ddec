/-
  The document's disk: Cut.
-/
import Derived.Test.YtiajggmnfaidjaaGreatDoorRc
set_option linter.unusedVariables false
set_option linter.unusedSimpArgs false
set_option linter.unusedVariables false
set_option linter.unusedSimpArgs false
namespace Go.Proofs.YtiajggmnfaidjaaGreatDoor
open Go.RowKit

/-- A row loaded under a guard that lets it. -/
theorem wpList_load_wanted {P : Program} {ops : Array Oper} {rest : List Oper} {o : Oper} {a : Act} {w : World} {Q : Exit → Act → World → Prop} (hw : Region.wanted o (yielded ops a.tmps) = true) (ty : TypeId) (x : Operand) (ho : o.op = .load ty x)
    (g : Nat) (hx : a.eval x = .pointer (some ⟨g, 0, none⟩)) (t : TypeId) (cs : Array Value) (fr : Nat × Nat) (d : TypeDesc) (hg : w.heap[g]? = some (.cells cs t fr))
    (hu : P.underlying ty = some d) (hd : (match d with | .struct _ | .array _ _ => true | _ => false) = true) (hi : (P.info? ty).map (·.size) = some cs.size)
    (h : wpList P ops Q rest (a.put o.dst (.agg cs)) w) : wpList P ops Q (o :: rest) a w :=
  wpList_step fun K hK => by rw [if_pos hw]; exact wp_load_row ty x ho g hx t cs fr d hg hu hd hi (hK _ _ h)
set_option maxRecDepth 100000 in
set_option maxHeartbeats 1000000 in
theorem rdCut_fresh {w : World} {cs : Array Value} {m : DM} (h : RDis w cs m) (hfit : RFit m) (hn : m.loose.length < 1000000) (file many : Int) :
    Calls Tryz.prog 25 #[.agg cs, .int .i64 file, .int .i64 many] w (GivesRF (m.cut file many).1 (m.cut file many).2 w cs) := by
  have H := Lib.hid h
  have HFIT := Lib.hid hfit
  have HSZ := Lib.hid h.info
  have HONE := Lib.hid h.one
  have HZS := Lib.hid h.zsize
  have HA := Lib.hid (two_fst w cs)
  have HB := Lib.hid (two_snd w cs)
  by_cases hm : many < 0
  · have hap : m.cut file many = (m, 2) := by unfold DM.cut; rw [if_pos hm]
    rw [hap]
    clear h hfit hap
    go_enter Tryz.func25, Tryz.ntmps25
    go_wp2_with (first | (refine wpList_load_row rfl 36 _ rfl w.heap.size rfl _ cs (0, 0) _ HA.out Tryz.underlying36 rfl HSZ.out ?_) | (refine wpList_store_row rfl 36 _ _ rfl (w.heap.size + 1) cs rfl rfl _ _ HB.out HSZ.out HZS.out HONE.out ?_))
    exact bodyPost_ret (v := .tuple #[.agg cs, .int .i64 2]) (results_row2 rfl _ _ (w.heap.size + 1) cs _ rfl rfl (setRow_heap _ _ _ _ _ _ HB.out) HSZ.out) rfl (two_ret H.out (Bel.refl _))
  · by_cases hr : file < 0 ∨ 64 ≤ file
    · have hap : m.cut file many = (m, 4) := by unfold DM.cut; rw [if_neg hm, if_pos (.inl hr)]
      rw [hap]
      clear h hfit hap
      rcases hr with hr | hr
      · go_enter Tryz.func25, Tryz.ntmps25
        go_wp2_with (first | (refine wpList_load_row rfl 36 _ rfl w.heap.size rfl _ cs (0, 0) _ HA.out Tryz.underlying36 rfl HSZ.out ?_) | (refine wpList_store_row rfl 36 _ _ rfl (w.heap.size + 1) cs rfl rfl _ _ HB.out HSZ.out HZS.out HONE.out ?_))
        exact bodyPost_ret (v := .tuple #[.agg cs, .int .i64 4]) (results_row2 rfl _ _ (w.heap.size + 1) cs _ rfl rfl (setRow_heap _ _ _ _ _ _ HB.out) HSZ.out) rfl (two_ret H.out (Bel.refl _))
      · have h0 : 0 ≤ file := by omega
        go_enter Tryz.func25, Tryz.ntmps25
        go_wp2_with (first | (refine wpList_load_row rfl 36 _ rfl w.heap.size rfl _ cs (0, 0) _ HA.out Tryz.underlying36 rfl HSZ.out ?_) | (refine wpList_store_row rfl 36 _ _ rfl (w.heap.size + 1) cs rfl rfl _ _ HB.out HSZ.out HZS.out HONE.out ?_))
        exact bodyPost_ret (v := .tuple #[.agg cs, .int .i64 4]) (results_row2 rfl _ _ (w.heap.size + 1) cs _ rfl rfl (setRow_heap _ _ _ _ _ _ HB.out) HSZ.out) rfl (two_ret H.out (Bel.refl _))
    · have hf0 : 0 ≤ file := by omega
      have hf64 : file < 64 := by omega
      obtain ⟨fn, rfl⟩ := Int.eq_ofNat_of_zero_le hf0
      have HL := Lib.hid (rdFile_any (h.bel (two_bel w cs)) hfit fn (by omega))
      have hlen : (m.files fn).length ≤ 16777216 := by rw [hfit.files]; exact hfit.len _ _ hf0 hf64
      have hsz : (⟨(m.files fn).toArray⟩ : ByteArray).size = (m.files fn).length := rfl
      have hlI : ((m.files fn).length : Int) ≤ 16777216 := by omega
      by_cases hbig : ((m.files fn).length : Int) < many
      · have hap : m.cut fn many = (m, 4) := by unfold DM.cut; rw [if_neg hm, if_pos (.inr hbig)]
        rw [hap]
        clear h hfit hap hr hlen
        generalize hfs : m.files fn = fs at *
        clear hfs
        go_enter Tryz.func25, Tryz.ntmps25
        go_wp2_with (first | (refine wpList_load_row rfl 36 _ rfl w.heap.size rfl _ cs (0, 0) _ HA.out Tryz.underlying36 rfl HSZ.out ?_) | (refine wpList_load_wanted (by go_simp) 36 _ rfl w.heap.size rfl _ cs (0, 0) _ HA.out Tryz.underlying36 rfl HSZ.out ?_) | (go_at_call 23; refine HL.out.mono ?_; rintro e w2 ⟨rfl, hb2⟩; have HB2 := Lib.hid hb2; have HAA := Lib.hid (hb2.deferred HA.out); have HBB := Lib.hid (hb2.deferred HB.out); clear hb2) | (refine wpList_load_row rfl 36 _ rfl w.heap.size rfl _ cs (0, 0) _ HAA.out Tryz.underlying36 rfl HSZ.out ?_) | (refine wpList_store_row rfl 36 _ _ rfl (w.heap.size + 1) cs rfl rfl _ _ HBB.out HSZ.out HZS.out HONE.out ?_))
        exact bodyPost_ret (v := .tuple #[.agg cs, .int .i64 4]) (results_row2 rfl _ _ (w.heap.size + 1) cs _ rfl rfl (setRow_heap _ _ _ _ _ _ HBB.out) HSZ.out) rfl (two_ret H.out HB2.out)
      · have hap : m.cut fn many = ({ m with files := doneF m.files ⟨fn, [], many, true⟩, loose := m.loose ++ [⟨fn, [], many, true⟩] }, 0) := by unfold DM.cut; rw [if_neg hm, if_neg (by omega)]
        rw [hap]
        clear h hfit hap hr hlen
        have hle2 : ¬ ((m.files fn).length : Int) < many := hbig
        generalize hfs : m.files fn = fs at *
        clear hfs
        generalize hF : doneF m.files ⟨fn, [], many, true⟩ = F at *
        clear hF
        obtain ⟨A, cap, hcc, hth⟩ := H.out
        have HC := Lib.hid hcc
        have HT := Lib.hid hth
        have HSZ5 : ∀ v : Value, (Tryz.prog.info? 36).map (·.size) = some (cs.setIfInBounds 65 v).size := fun v => by rw [Array.size_setIfInBounds]; exact HSZ.out
        have HZS5 : ∀ v : Value, Tryz.zeroCells36.size = (cs.setIfInBounds 65 v).size := fun v => by rw [Array.size_setIfInBounds]; exact HZS.out
        have HONE5 : ∀ (A : Option Addr) (n c : Nat), (cs.setIfInBounds 65 (.slice A n c)).all (·.oneCell') = true := fun A n c => one_set HONE.out 65 rfl
        have HON := Lib.hid (rths_one m.loose)
        have HON1 : Hid (∀ u ∈ rth ⟨fn, [], many, true⟩, u.oneCell' = true) := rth_one _
        obtain ⟨i0, hi0, hz0, hz1, hz2⟩ := info_parts infoRT
        have hp4 : (0 : Nat) < 4 := by omega
        have h63a : 0 + m.loose.length ≤ maxLen := by unfold maxLen; omega
        have hbya : (0 + m.loose.length) * 40 ≤ 140737488355328 := by omega
        have h63b : m.loose.length + 1 ≤ maxLen := by unfold maxLen; omega
        have hbyb : (m.loose.length + 1) * 40 ≤ 140737488355328 := by omega
        clear hcc hth
        go_enter Tryz.func25, Tryz.ntmps25
        go_wp2_with (first
                     | (refine wpList_load_row rfl 36 _ rfl w.heap.size rfl _ cs (0, 0) _ HA.out Tryz.underlying36 rfl HSZ.out ?_)
                     | (refine wpList_load_wanted (by go_simp) 36 _ rfl w.heap.size rfl _ cs (0, 0) _ HA.out Tryz.underlying36 rfl HSZ.out ?_)
                     | (go_at_call 23; refine HL.out.mono ?_; rintro e w2 ⟨rfl, hb2⟩
                        have HB2 := Lib.hid hb2
                        have hbw := (two_bel w cs).then_ hb2
                        have HBW := Lib.hid hbw
                        have HBB := Lib.hid (hb2.deferred HB.out)
                        have HAA := Lib.hid (hb2.deferred HA.out)
                        have d65 : w2.cell? ⟨w.heap.size, 65, none⟩ = some (.slice A m.loose.length cap) := by have h1 := hb2.deferred HA.out; rw [Blk.cell h1 65]; exact HC.out.loose
                        have hal : Bel w2 (w2.alloc (.cells #[] 105)) := (Bel.refl w2).alloc _
                        have d65a := hal.c d65
                        have HAL := Lib.hid hal
                        have HR1 := Lib.hid ((HT.out.bel hbw).bel hal).reads
                        have HC1 : Hid ((w2.alloc (.cells #[] 105)).ownsRow w2.heap.size 105 4 (.slice (some ⟨w2.heap.size, 0, none⟩) 0 0) 0 []) := ⟨by simp, .inr ⟨w2.heap.size, 0, #[], rfl, Nat.le_refl _, World.alloc_heap_new _ _, Nat.le_refl _, Nat.zero_le _, rfl, rfl⟩⟩
                        clear hb2 hbw hal d65)
                     | (at_builtin; refine wpList_append_any _ rfl _ _ _ rfl w2.heap.size 105 i0 _ 4 40 Tryz.underlying34 hi0 hz0 hz1 hz2 rfl hp4 _ 0 [] rfl HC1.out _ A m.loose.length cap (rths m.loose) rfl HR1.out HON.out h63a hbya HAL.out.size ?_
                        intro v8 w8 hown8 hg8 hat8
                        simp only [Nat.zero_add, List.nil_append] at hown8
                        obtain ⟨A8, c8, rfl⟩ := row_any hown8
                        have hb8 : Bel w2 w8 := Below.grown HAL.out hg8 HAL.out.size (fun j e => (HC1.out.lt j e).1)
                        have HO8 := Lib.hid hown8
                        have HB8 := Lib.hid hb8
                        have hal8 : Bel w8 (w8.alloc (.cells #[.int .i64 fn, .int .i64 many, .bool true, .string ⟨#[]⟩] 105)) := (Bel.refl w8).alloc _
                        have HO8' := Lib.hid (ownsRow_bel hown8 hal8)
                        have HX8 : Hid (Reads (w8.alloc (.cells #[.int .i64 fn, .int .i64 many, .bool true, .string ⟨#[]⟩] 105)) (w8.heap.size + 1) 4 (some ⟨w8.heap.size, 0, none⟩) 1 (rth ⟨fn, [], many, true⟩)) := reads4 w8 _ _ _ _ _
                        have HS8 : Hid (w2.heap.size ≤ (w8.alloc (.cells #[.int .i64 fn, .int .i64 many, .bool true, .string ⟨#[]⟩] 105)).heap.size) := Nat.le_trans hb8.size hal8.size
                        have HAL8 := Lib.hid hal8
                        clear hown8 hg8 hat8 hb8 hal8)
                     | (at_builtin; refine wpList_append_any _ rfl _ _ _ rfl w2.heap.size 105 i0 _ 4 40 Tryz.underlying34 hi0 hz0 hz1 hz2 rfl hp4 _ m.loose.length (rths m.loose) rfl HO8'.out _ (some ⟨w8.heap.size, 0, none⟩) 1 1 (rth ⟨fn, [], many, true⟩) rfl HX8.out HON1.out h63b hbyb HS8.out ?_
                        intro v9 w9 hown9 hg9 hat9
                        obtain ⟨A9, c9, rfl⟩ := row_any hown9
                        have hb9 : Bel w2 w9 := Below.grown (HB8.out.then_ HAL8.out) hg9 HS8.out (fun j e => (HO8.out.lt j e).1)
                        have HO9 := Lib.hid hown9
                        have HB9 := Lib.hid hb9
                        have hbl9 := hb9.deferred HAA.out
                        have HBLK9 : Hid ((w9.setCell ⟨w.heap.size, 65, none⟩ (.slice A9 (m.loose.length + 1) c9)).heap[w.heap.size]? = some (.cells (cs.setIfInBounds 65 (.slice A9 (m.loose.length + 1) c9)) 36 (0, 0))) := Blk.set_ hbl9 65 _
                        have HBB9 : Hid ((w9.setCell ⟨w.heap.size, 65, none⟩ (.slice A9 (m.loose.length + 1) c9)).heap[w.heap.size + 1]? = some (.cells Tryz.zeroCells36 36 (0, 0))) := by
                          show _ = _
                          rw [Below.heap_setCell _ _ _ _ (by simp)]
                          exact hb9.deferred HBB.out
                        have k65 : w9.cell? ⟨w.heap.size, 65, none⟩ = some (.slice A m.loose.length cap) := by rw [Blk.cell hbl9 65]; exact HC.out.loose
                        have kfz : w9.frozen? ⟨w.heap.size, 65, none⟩ = false := Blk.frozen hbl9 65
                        clear hown9 hg9 hat9 hb9 hbl9)
                     | (refine wpList_load_row rfl 36 _ rfl w.heap.size rfl _ (cs.setIfInBounds 65 (.slice A9 (m.loose.length + 1) c9)) (0, 0) _ HBLK9.out Tryz.underlying36 rfl (HSZ5 _) ?_)
                     | (refine wpList_store_row rfl 36 _ _ rfl (w.heap.size + 1) (cs.setIfInBounds 65 (.slice A9 (m.loose.length + 1) c9)) rfl rfl _ _ HBB9.out (HSZ5 _) (HZS5 _) (HONE5 _ _ _) ?_))
        refine bodyPost_ret (v := .tuple #[.agg (cs.setIfInBounds 65 (.slice A9 (m.loose.length + 1) c9)), .int .i64 0]) (results_row2 rfl _ _ (w.heap.size + 1) _ _ rfl rfl (setRow_heap _ _ _ _ _ _ HBB9.out) (HSZ5 _)) rfl ?_
        have hown : w9.ownsRow w2.heap.size 105 4 (.slice A9 (m.loose.length + 1) c9) (m.loose.length + 1) (rths (m.loose ++ [⟨fn, [], many, true⟩])) := by rw [rths_snoc]; exact HO9.out
        exact put_ret (x := ⟨fn, [], many, true⟩) (F := F) HC.out HB9.out hown HBW.out HBB.out
theorem rdCut_any {w : World} {cs : Array Value} {m : DM} (h : RDis w cs m) (hfit : RFit m) (hn : m.loose.length < 1000000) (file many : Int) :
    Calls Tryz.prog 25 #[.agg cs, .int .i64 file, .int .i64 many] w (GivesR (m.cut file many).1 (m.cut file many).2 w) := (rdCut_fresh h hfit hn file many).mono fun _ _ h => h.drop
end Go.Proofs.YtiajggmnfaidjaaGreatDoor
