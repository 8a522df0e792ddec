/-
  DiskHolds: a call by both: Sync, Copy.
-/
import Derived.Test.YthmigmiojifnkaaDoorDa
set_option linter.unusedVariables false
set_option linter.unusedSimpArgs false
set_option linter.unusedVariables false
set_option linter.unusedSimpArgs false
namespace Go.Proofs.YthmigmiojifnkaaDoor
open Go.RowKit

theorem act_end_row {w W w4 : World} {bd : Nat} {m' : DM} {fp fp4 : Nat → Prop} {cs : Array Value} {b : Bool} (hB : Bel w W) (hs : w.heap.size + 3 ≤ W.heap.size) (hD : DiskIs w4 bd m' fp4) (hO : Opp (fun b => fp b ∧ b < w.heap.size) fp4 W w4) :
    GivesAct m' fp w (.returned (.tuple #[.pointer (some ⟨bd, 0, none⟩), .agg cs, .bool b])) (w4.setRow (w.heap.size + 1 + 1) cs) := by
  have hoth := fun k hk => setRow_other w4 (w.heap.size + 1 + 1) k cs hk
  have h4 := hO.size
  have h5 := hB.size
  have hsub : ∀ b, fp4 b → (fp b ∧ b < w.heap.size) ∨ W.heap.size ≤ b := fun b hb => hO.sub b hb
  refine ⟨bd, cs, b, fp4, rfl, hD.kept fun k hk _ => hoth k (fun e => by rcases hsub k hk with h | h <;> omega), ⟨hO.os.trans hB.os, hO.tape.trans hB.tape, hO.output.trans hB.output, by rw [size_setRow]; omega, fun k hk hn => ?_, fun b hb => (hsub b hb).elim (fun h => .inl h.1) (fun h => .inr (by omega))⟩⟩
  rw [hoth k (by omega), hO.block k (by omega) (fun h => hn h.1)]
  exact hB.block k hk
theorem results_row3' {fn : Func} {q p r : Tmp} (h : fn.results = #[.tmp q, .cell p 37, .tmp r]) (tmps : Array Value) (w : World) (g : Nat) (cs : Array Value) (u v : Value) (hq : tmps.getD q undef = u) (hp : tmps.getD p undef = .pointer (some ⟨g, 0, none⟩)) (hr : tmps.getD r undef = v)
    (hg : w.heap[g]? = some (.cells cs 37 (0, 0))) (hi : (Tryd.prog.info? 37).map (·.size) = some cs.size) : (results fn tmps).run Tryd.prog w = .ok (.tuple #[u, .agg cs, v]) w := by
  have hp' : tmps[p]?.getD undef = .pointer (some ⟨g, 0, none⟩) := by simpa using hp
  have hq' : tmps[q]?.getD undef = u := by simpa using hq
  have hr' : tmps[r]?.getD undef = v := by simpa using hr
  simp [results, h, hp', hq', hr', asAddr, run_loadVar_row (P := Tryd.prog) w g 37 37 cs (0, 0) _ hg Tryd.underlying37 rfl hi]
set_option maxRecDepth 100000 in
set_option maxHeartbeats 1000000 in
theorem act_sync {w : World} {bd : Nat} {m : DM} {fp : Nat → Prop} {cs : Array Value} {mw : DM} (h : DiskIs w bd m fp) (hfit : Fit m) (hr : RDis w cs mw) (hrf : RFit mw) (file n torn : Int) (A : Option Addr) (nb cap : Nat) :
    Calls Tryd.prog 12 #[.pointer (some ⟨bd, 0, none⟩), .agg cs, .agg #[.int .i64 4, .int .i64 file, .int .i64 n, .int .i64 torn, .slice A nb cap]] w (GivesAct m.sync fp w) := by
  have hb3 := actW_bel w cs (.int .i64 4) (.int .i64 file) (.int .i64 n) (.int .i64 torn) (.slice A nb cap)
  have HA := Lib.hid (actW_fst w cs (.int .i64 4) (.int .i64 file) (.int .i64 n) (.int .i64 torn) (.slice A nb cap))
  have HZ := Lib.hid (actW_thd w cs (.int .i64 4) (.int .i64 file) (.int .i64 n) (.int .i64 torn) (.slice A nb cap))
  have HS3 := Lib.hid (actW_size w cs (.int .i64 4) (.int .i64 file) (.int .i64 n) (.int .i64 torn) (.slice A nb cap))
  have HSZ := Lib.hid hr.info
  have HRS := Lib.hid (rdSync_any (hr.bel hb3) hrf)
  have HB3 := Lib.hid hb3
  have HD := Lib.hid h
  have HNE := Lib.hid hfit.ne
  clear hb3 h hfit hr hrf
  go_enter Tryd.func12, Tryd.ntmps12
  go_wp2_with (first
               | (refine wpList_load_row rfl 37 _ rfl w.heap.size rfl _ cs (0, 0) _ HA.out Tryd.underlying37 rfl HSZ.out ?_)
               | (go_at_call 43; refine HRS.out.mono ?_; rintro e w2 ⟨cs2, rfl, hr2, hb2⟩
                  have HI2 := Lib.hid hr2.info
                  have HO2 := Lib.hid hr2.one
                  have HZ2 := Lib.hid hr2.zsize
                  have HB2 := Lib.hid hb2
                  have HSY := Lib.hid (sync_any ((HD.out.tight).bel (HB3.out.then_ hb2)) HNE.out)
                  clear hr2 hb2)
               | (go_at_call 24; refine HSY.out.mono ?_; rintro e w4 ⟨rfl, fp4, hD4, hO4⟩
                  have HD4 := Lib.hid hD4
                  have HO4 := Lib.hid hO4
                  have HZ4 : Hid (w4.heap[w.heap.size + 1 + 1]? = some (.cells Tryd.zeroCells37 37 (0, 0))) := by
                    show _ = _
                    have h1 := HB2.out.deferred HZ.out
                    have h2 := (Array.getElem?_eq_some_iff.1 h1).1
                    rw [hO4.block _ h2 (fun h => by have := h.2; omega)]
                    exact h1
                  clear hD4 hO4)
               | (go_at_call 11; refine (num_any _ _).mono ?_; rintro e w' ⟨rfl, rfl⟩)
               | (refine wpList_store_row rfl 37 _ _ rfl (w.heap.size + 1 + 1) cs2 rfl rfl _ _ HZ4.out HI2.out HZ2.out HO2.out ?_))
  refine bodyPost_ret (v := .tuple #[.pointer (some ⟨bd, 0, none⟩), .agg cs2, .bool true]) (results_row3' rfl _ _ (w.heap.size + 1 + 1) cs2 _ _ rfl rfl rfl (setRow_heap _ _ _ _ _ _ HZ4.out) HI2.out) rfl ?_
  exact act_end_row (HB3.out.then_ HB2.out) (by have := HB2.out.size; rw [HS3.out] at this; exact this) HD4.out HO4.out
set_option maxRecDepth 100000 in
set_option maxHeartbeats 1000000 in
theorem act_copy {w : World} {bd : Nat} {m : DM} {fp : Nat → Prop} {cs : Array Value} {mw : DM} (h : DiskIs w bd m fp) (hfit : Fit m) (hr : RDis w cs mw) (what file n torn : Int) (A : Option Addr) (nb cap : Nat) (h0 : what ≠ 0) (h1 : what ≠ 1) (h2 : what ≠ 2) (h3 : what ≠ 3) (h4 : what ≠ 4) (h5 : what ≠ 5) :
    Calls Tryd.prog 12 #[.pointer (some ⟨bd, 0, none⟩), .agg cs, .agg #[.int .i64 what, .int .i64 file, .int .i64 n, .int .i64 torn, .slice A nb cap]] w (GivesAct m fp w) := by
  have b0 : (what == 0) = false := beq_eq_false_iff_ne.2 h0
  have b1 : (what == 1) = false := beq_eq_false_iff_ne.2 h1
  have b2 : (what == 2) = false := beq_eq_false_iff_ne.2 h2
  have b3 : (what == 3) = false := beq_eq_false_iff_ne.2 h3
  have b4 : (what == 4) = false := beq_eq_false_iff_ne.2 h4
  have b5 : (what == 5) = false := beq_eq_false_iff_ne.2 h5
  obtain ⟨l2, rfl⟩ : ∃ l : List Value, cs = l.toArray := ⟨cs.toList, by simp⟩
  have hu37 := Tryd.underlying37
  have hi37 : (Tryd.prog.info? 37).map (·.size) = some l2.length := by have := hr.info; rw [List.size_toArray] at this; exact this
  have hone2 : ∀ v ∈ l2, v.oneCell' = true := fun v hv => Array.all_eq_true_iff_forall_mem.1 hr.one v (by simpa using hv)
  have hzl : Tryd.zeroCells37.size = l2.length := by have := hr.zsize; rw [List.size_toArray] at this; exact this
  have hbd : Bel w (actW w l2.toArray (.int .i64 what) (.int .i64 file) (.int .i64 n) (.int .i64 torn) (.slice A nb cap)).drew := (actW_bel w l2.toArray (.int .i64 what) (.int .i64 file) (.int .i64 n) (.int .i64 torn) (.slice A nb cap)).drew
  have hxb := actW_snd w l2.toArray (.int .i64 what) (.int .i64 file) (.int .i64 n) (.int .i64 torn) (.slice A nb cap)
  have hS : ActS w.heap.size w.heap.size l2 2 (.int .i64 file) (.int .i64 n) (actW w l2.toArray (.int .i64 what) (.int .i64 file) (.int .i64 n) (.int .i64 torn) (.slice A nb cap)).drew := ⟨Blk.cell hxb 1, Blk.cell hxb 2, range_of_block (actW_fst w l2.toArray (.int .i64 what) (.int .i64 file) (.int .i64 n) (.int .i64 torn) (.slice A nb cap)), there_of_block (actW_thd w l2.toArray (.int .i64 what) (.int .i64 file) (.int .i64 n) (.int .i64 torn) (.slice A nb cap)) hzl⟩
  have HSS := Lib.hid hS
  have hszd : (actW w l2.toArray (.int .i64 what) (.int .i64 file) (.int .i64 n) (.int .i64 torn) (.slice A nb cap)).drew.heap.size = w.heap.size + 3 := actW_size _ _ _ _ _ _ _
  have HWS : Hid (w.heap.size + 3 ≤ (actW w l2.toArray (.int .i64 what) (.int .i64 file) (.int .i64 n) (.int .i64 torn) (.slice A nb cap)).drew.heap.size ∧ w.heap.size < (actW w l2.toArray (.int .i64 what) (.int .i64 file) (.int .i64 n) (.int .i64 torn) (.slice A nb cap)).drew.heap.size) := by show _ ∧ _; rw [hszd]; omega
  have HBW := Lib.hid hbd
  have HI37 := Lib.hid hi37
  have HCP := Lib.hid (copy_any ((h.tight).bel hbd) hfit)
  have hS0 : (fun V : World => V.cell? ⟨w.heap.size + 1, 1, none⟩ = some (.int .i64 file) ∧ V.cell? ⟨w.heap.size + 1, 2, none⟩ = some (.int .i64 n) ∧ V.rangeAt w.heap.size 0 l2 ∧ V.there (w.heap.size + 1 + 1) 0 l2.length) (actW w l2.toArray (.int .i64 what) (.int .i64 file) (.int .i64 n) (.int .i64 torn) (.slice A nb cap)).drew := hS
  clear h0 h1 h2 h3 h4 h5 hzl hbd hxb hS hszd h hfit hr
  go_enter Tryd.func12, Tryd.ntmps12
  go_wp2
  refine wp_region_noPanic ?_
  refine wp_region_held_drew (S := (fun V : World => V.cell? ⟨w.heap.size + 1, 1, none⟩ = some (.int .i64 file) ∧ V.cell? ⟨w.heap.size + 1, 2, none⟩ = some (.int .i64 n) ∧ V.rangeAt w.heap.size 0 l2 ∧ V.there (w.heap.size + 1 + 1) 0 l2.length)) (by kernel_rfl) ?_ (fun hH0 => ?_)
  · (try dsimp only); (first | assumption | exact hS0 | exact hS4 | exact ActS.put hS4 (by omega))
  refine wpAnyH_take (i := 0) (oi := _) (v := ?v0) rfl (by kernel_rfl) (by kernel_rfl) (by kernel_rfl) ?hq0 (Or.inl ⟨by rfl, ?hy0⟩) (by assumption) ?rest0
  case hq0 => exact fun _ _ _ h => h
  case hy0 => (intro w hSw; (try dsimp only at hSw); go_simp; try with_reducible rfl)
  try simp only [Act.put, List.setIfInBounds_toArray, List.set_cons_zero, List.set_cons_succ]
  refine wpAnyH_take (i := 2) (oi := _) (v := _) rfl (by kernel_rfl) (by kernel_rfl) (by kernel_rfl) ?hq2 (yieldsIf_load_mid (by rfl) _ _ rfl w.heap.size 0 rfl l2 _ (fun V hV => hV.2.2.1) hu37 rfl hi37) (by assumption) ?rest2
  case hq2 => exact fun _ _ _ h => h
  try simp only [Act.put, List.setIfInBounds_toArray, List.set_cons_zero, List.set_cons_succ]
  refine wpAnyH_ready (rs := [1]) (by kernel_rfl) (by simp) ?_
  refine AllReadyH.cons (o := _) rfl (fun K hK => ?_) AllReadyH.nil
  go_simp
  (go_at_call 40; refine HCP.out.mono ?_; rintro e w4 ⟨bd4, rfl, hD4, hb4⟩; have hO4 : Opp (fun b => fp b ∧ b < w.heap.size) (fun b => (fp b ∧ b < w.heap.size) ∨ (actW w l2.toArray (.int .i64 what) (.int .i64 file) (.int .i64 n) (.int .i64 torn) (.slice A nb cap)).drew.heap.size ≤ b) (actW w l2.toArray (.int .i64 what) (.int .i64 file) (.int .i64 n) (.int .i64 torn) (.slice A nb cap)).drew w4 := ⟨hb4.os, hb4.tape, hb4.output, hb4.size, fun k hk _ => hb4.block k hk, fun b h => h⟩; have hS4 := HSS.out.opp hO4 HWS.out.1 HWS.out.2 (fun b h => h.2) (Nat.le_refl _))
  try (go_wp2_with fail)
  refine hK.out _ _ ?_ (fun hH1 => ?_)
  · (try dsimp only); (first | assumption | exact hS0 | exact hS4 | exact ActS.put hS4 (by omega))
  clear hK K hH0
  try simp only [Act.put, List.setIfInBounds_toArray, List.set_cons_zero, List.set_cons_succ]
  refine wpAnyH_ready (rs := [3]) (by kernel_rfl) (by simp) ?_
  refine AllReadyH.cons (o := _) rfl (fun K hK => ?_) AllReadyH.nil
  go_simp
  refine hK.out _ _ ?_ (fun hH2 => ?_)
  · (try dsimp only); (first | assumption | exact hS0 | exact hS4 | exact ActS.put hS4 (by omega))
  clear hK K hH1
  try simp only [Act.put, List.setIfInBounds_toArray, List.set_cons_zero, List.set_cons_succ]
  refine wpAnyH_ready (rs := [4]) (by kernel_rfl) (by simp) ?_
  refine AllReadyH.cons (o := _) rfl (fun K hK => ?_) AllReadyH.nil
  rw [if_pos (by rfl)]
  refine wp_store_mid _ _ _ rfl _ _ l2.toArray rfl rfl (hS4.2.2.2) (by rw [List.size_toArray]; exact hi37) (all_oneCell_toArray hone2) ?_
  simp only [Act.put, List.setIfInBounds_toArray, List.set_cons_zero, List.set_cons_succ, List.toList_toArray]
  refine hK.out _ _ ?_ (fun hH3 => ?_)
  · (try dsimp only); (first | assumption | exact hS0 | exact hS4 | exact ActS.put hS4 (by omega))
  clear hK K hH2
  try simp only [Act.put, List.setIfInBounds_toArray, List.set_cons_zero, List.set_cons_succ]
  refine wpAnyH_ready (rs := [5]) (by kernel_rfl) (by simp) ?_
  refine AllReadyH.cons (o := _) rfl (fun K hK => ?_) AllReadyH.nil
  go_simp
  refine hK.out _ _ ?_ (fun hH4 => ?_)
  · (try dsimp only); (first | assumption | exact hS0 | exact hS4 | exact ActS.put hS4 (by omega))
  clear hK K hH3
  try simp only [Act.put, List.setIfInBounds_toArray, List.set_cons_zero, List.set_cons_succ]
  refine wpAnyH_done (by kernel_rfl) ?_ _
  refine NoPanic.normal ?_
  have HD4 := Lib.hid hD4
  have HO4 := Lib.hid hO4
  have HS4 := Lib.hid hS4
  clear hD4 hO4 hS4 hS0 hb4
  go_wp2
  refine bodyPost_ret (v := .tuple #[.pointer (some ⟨bd4, 0, none⟩), .agg l2.toArray, .bool true]) (results_row3 rfl _ _ (w.heap.size + 1 + 1) l2 _ _ rfl rfl rfl (World.rangeAt_setCells_same _ _ _ _ HS4.out.2.2.2) HI37.out) rfl ?_
  exact act_end HBW.out HWS.out.1 HD4.out HO4.out
end Go.Proofs.YthmigmiojifnkaaDoor
