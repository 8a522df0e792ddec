/-
  The files of none: nothing is gone over.
-/
import Derived.Test.YthmigmiojifnkaaDoorDx
import Derived.Laws.IdiomRangeMap
set_option linter.unusedVariables false
set_option linter.unusedSimpArgs false
set_option linter.unusedVariables false
set_option linter.unusedSimpArgs false
namespace Go.Proofs.YthmigmiojifnkaaDoor
open Go.RowKit Go.Shelf
attribute [local go_sem] Oper.semAt_some

set_option maxRecDepth 100000 in
set_option maxHeartbeats 1000000 in
theorem keysC_seq (n : Nat) (hn : 1 ≤ n) (B1 mf n₀ : Nat) (w : World) (hB1 : B1 < n₀) (hmf : mf < n₀) (hn0 : n₀ ≤ w.heap.size) (c1 : w.cell? ⟨B1, 0, none⟩ = some (.map (some mf))) (hm : w.heap[mf]? = some (.map #[] 0)) :
    SeqE Fence.wide n Tryd.prog 104 #[.pointer (some ⟨B1, 0, none⟩)] (fun x : Int => #[.int .i64 x]) (fun _ _ => True) n₀ [] w := fun l J Jx W hW hJ hY hJ0 => by
  have d1 := (hW.cell (p := ⟨B1, 0, none⟩) hB1).trans c1
  have hm' : W.heap[mf]? = some (.map #[] 0) := (hW.block mf hmf).trans hm
  have hrg := run_range_map (P := Tryd.prog) W 78 3 31 mf #[] 0 Tryd.underlying78 hm'
  have law := run_next_map (P := Tryd.prog) W 0 mf 0 0 #[] #[] 0 hm' (by simp) (Nat.le_refl _)
  have hnx : ∀ ty, (Instr.next (.pointer (some ⟨W.heap.size, 0, none⟩)) false ty).run Tryd.prog (W.alloc (.mapIter (some mf) 0 #[] 0)) = .ok (.tuple #[.bool false]) (W.alloc (.mapIter (some mf) 0 #[] 0)) := fun _ => by
    rcases law with ⟨_, h⟩ | ⟨e, he, _⟩
    · exact h
    · simp [leftOf] at he
  have HJ : Hid (J [] (W.alloc (.mapIter (some mf) 0 #[] 0))) := hJ _ _ _ hJ0 ((Bel.refl W).alloc _)
  clear law hm hm' c1 hJ hY hJ0
  refine callsIn_of_wp Tryd.func104 rfl trivial ?_ rfl
  simp only [Tryd.ntmps104, List.size_toArray, List.length_cons, List.length_nil, Nat.reduceAdd, Nat.reduceSub, Array.replicate_succ, Array.replicate_zero, List.push_toArray, List.append_toArray, List.nil_append, List.cons_append]
  gi_wp2
  refine wpIn_loop_rounds 1 ?_
  rw [roundsIn_succ]
  gi_wp2
  go_end0
  exact ⟨⟨_, rfl⟩, .inl HJ.out⟩
set_option maxRecDepth 100000 in
set_option maxHeartbeats 1000000 in
theorem appendSeq_none (B1 mf : Nat) (w : World) (c1 : w.cell? ⟨B1, 0, none⟩ = some (.map (some mf))) (hm : w.heap[mf]? = some (.map #[] 0)) :
    Calls Tryd.prog 109 #[.slice none 0 0, .func (.func 104) #[] #[.pointer (some ⟨B1, 0, none⟩)]] w fun e w' => e = .returned (.slice none 0 0) ∧ Bel w w' := by
  have hB1 : B1 < w.heap.size := World.block_lt_of_cell? (w := w) (a := ⟨B1, 0, none⟩) c1
  have hmf : mf < w.heap.size := (Array.getElem?_eq_some_iff.1 hm).1
  refine calls_of_wp_marks 6 Tryd.func109 rfl ?_
  simp only [Tryd.ntmps109, List.size_toArray, List.length_cons, List.length_nil, Nat.reduceAdd, Nat.reduceSub, Array.replicate_succ, Array.replicate_zero, List.push_toArray, List.append_toArray, List.nil_append, List.cons_append]
  go_wp2
  obtain ⟨W, hW⟩ : ∃ W, W = w.alloc (.cells #[.slice none 0 0] 127) := ⟨_, rfl⟩
  rw [← hW]
  have hbW : Bel w W := by rw [hW]; exact (Bel.refl w).alloc _
  have hszW : W.heap.size = w.heap.size + 1 := by rw [hW]; simp
  have e1 : W.cell? ⟨w.heap.size, 0, none⟩ = some (.slice none 0 0) := by rw [hW]; go_simp
  have HBW := Lib.hid hbW
  have HS := Lib.hid hszW
  refine wp_seq 6 (by omega) (gf := 104) (lb := #[.pointer (some ⟨B1, 0, none⟩)]) rfl (enters_of Tryd.func104 (by kernel_rfl) rfl)
    (keysC_seq 5 (by omega) B1 mf w.heap.size W hB1 hmf (by omega) (hbW.c c1) (hbW.deferred hm)) (by omega) (Below.refl _ _) (fun _ => rfl)
    (fun pre V => (V.cell? ⟨w.heap.size, 0, none⟩ = some (.slice none 0 0)) ∧ Bel w V) (fun _ _ _ => False)
    (OwnFrom.and (fun pre A B row hs hg hr => cell_kept hs hg (fun r e => (hr r e).2)) (ownFrom_below (Nat.le_refl _) (by omega))) (fun _ _ _ _ _ hs _ _ => hs) (fun _ _ _ _ hs _ _ => hs) ⟨e1, hbW⟩ ?_ ?_ ?_ ?_ ?_
  rotate_left
  · intro l x V K hK
    gi_wp2
    exact hK
  · intro l pre x rest V hx
    simp at hx
  · intro D V hD hi hdf
    obtain ⟨h1, h2⟩ := hi
    have HDF := Lib.hid hdf
    have H2 := Lib.hid h2
    have HSZ : Hid (w.heap.size ≤ D) := by show _ ≤ _; omega
    clear hdf h2 hD hW hbW hszW e1
    go_wp2
    exact leavesM_collected HDF.out (leavesM_nil (results_tmp rfl _ _ _) ⟨rfl, Bel.putObj H2.out HSZ.out _⟩)
  · intro D c pre x rest V hD hx
    simp at hx
theorem keys_any (mf : Nat) (w : World) : Calls Tryd.prog 89 #[.map (some mf)] w fun e w' => e = .returned (.func (.func 104) #[] #[.pointer (some ⟨w.heap.size, 0, none⟩)]) ∧ w.alloc (.cells #[.map (some mf)] 78) = w' := by
  go_enter Tryd.func89, Tryd.ntmps89
  go_wp2
  go_ret
  exact ⟨rfl, rfl⟩
set_option maxRecDepth 100000 in
theorem bitsLen_zero (w : World) : Calls Tryd.prog 111 #[.int .u64 0] w fun e w' => e = .returned (.int .i64 0) ∧ w = w' := by
  go_enter Tryd.func111, Tryd.ntmps111
  go_wp2
  go_ret
  refine ⟨?_, rfl⟩
  kernel_rfl
theorem insSort_zero (w : World) : Calls Tryd.prog 112 #[.slice none 0 0, .int .i64 0, .int .i64 0] w fun e w' => e = .returned (.tuple #[]) ∧ w = w' := by
  go_enter Tryd.func112, Tryd.ntmps112
  go_wp2
  refine wp_loop_rounds 1 ?_
  rw [rounds_succ]
  go_wp2
  go_end0
  exact ⟨rfl, rfl⟩
set_option maxRecDepth 100000 in
theorem pdq_zero (w : World) : Calls Tryd.prog 110 #[.slice none 0 0, .int .i64 0, .int .i64 0, .int .i64 0] w fun e w' => e = .returned (.tuple #[]) ∧ w = w' := by
  go_enter Tryd.func110, Tryd.ntmps110
  go_wp2
  refine wp_loop_rounds 1 ?_
  rw [rounds_succ]
  go_wp2_with (go_at_call 112; refine (insSort_zero _).mono ?_; rintro e w' ⟨rfl, rfl⟩)
  refine bodyPost_ret (results_none rfl _ _ _) rfl ?_
  exact ⟨rfl, rfl⟩
theorem sort_none (w : World) : Calls Tryd.prog 103 #[.slice none 0 0] w fun e w' => e = .returned (.tuple #[]) ∧ w = w' := by
  have hcv := fun (w : World) => (show (convert 3 139 (.int .i64 0)).run Tryd.prog w = .ok (.int .u64 0) w by kernel_rfl)
  go_enter Tryd.func103, Tryd.ntmps103
  go_wp2_with (first | (go_at_call 111; refine (bitsLen_zero _).mono ?_; rintro e w' ⟨rfl, rfl⟩) | (go_at_call 110; refine (pdq_zero _).mono ?_; rintro e w' ⟨rfl, rfl⟩))
  go_end0
  exact ⟨rfl, rfl⟩
set_option maxRecDepth 100000 in
set_option maxHeartbeats 1000000 in
theorem sorted_none (mf : Nat) (w : World) (hm : w.heap[mf]? = some (.map #[] 0)) : Calls Tryd.prog 70 #[.map (some mf)] w fun e w' => e = .returned (.slice none 0 0) ∧ Bel w w' := by
  have hba : Bel w (w.alloc (.cells #[.map (some mf)] 78)) := (Bel.refl w).alloc _
  have HA := Lib.hid (appendSeq_none w.heap.size mf (w.alloc (.cells #[.map (some mf)] 78)) (by simp) (hba.deferred hm))
  have HB := Lib.hid hba
  clear hm hba
  go_enter Tryd.func70, Tryd.ntmps70
  go_wp2_with (first | (go_at_call 89; refine (keys_any _ _).mono ?_; rintro e w' ⟨rfl, rfl⟩) | (go_at_call 88; go_in) | (go_at_call 102; go_in) | (go_at_call 109; refine HA.out.mono ?_; rintro e w1 ⟨rfl, hb1⟩; have HB1 := Lib.hid (HB.out.then_ hb1); clear hb1) | (go_at_call 103; refine (sort_none _).mono ?_; rintro e w' ⟨rfl, rfl⟩))
  go_ret
  exact ⟨rfl, HB1.out⟩
set_option maxRecDepth 100000 in
set_option maxHeartbeats 1000000 in
theorem filesC_seq (n : Nat) (hn : 3 ≤ n) (B1 mf n₀ : Nat) (w : World) (hB1 : B1 < n₀) (hmf : mf < n₀) (hn0 : n₀ ≤ w.heap.size) (c1 : w.cell? ⟨B1, 0, none⟩ = some (.map (some mf))) (hm : w.heap[mf]? = some (.map #[] 0)) :
    SeqE Fence.wide n Tryd.prog 69 #[.pointer (some ⟨B1, 0, none⟩)] (fun x : Int × Int => #[.int .i64 x.1, .int .i64 x.2]) (fun _ _ => True) n₀ [] w := fun l J Jx W hW hJ hY hJ0 => by
  have d1 := (hW.cell (p := ⟨B1, 0, none⟩) hB1).trans c1
  have hm' : W.heap[mf]? = some (.map #[] 0) := (hW.block mf hmf).trans hm
  have HSO := Lib.hid (sorted_none mf W hm')
  have HJ := Lib.hid hJ
  have HJ0 := Lib.hid hJ0
  clear hm hm' c1 hJ hY hJ0
  refine callsIn_of_wp Tryd.func69 rfl trivial ?_ rfl
  simp only [Tryd.ntmps69, List.size_toArray, List.length_cons, List.length_nil, Nat.reduceAdd, Nat.reduceSub, Array.replicate_succ, Array.replicate_zero, List.push_toArray, List.append_toArray, List.nil_append, List.cons_append]
  gi_wp2
  refine wpIn_scope_wide ?_
  gi_wp2
  refine wpIn_label ?_
  gi_wp2_with fail
  refine ⟨trivial, fun _ => by omega, (callsIn_wide.2 HSO.out).mono ?_⟩
  rintro e1 w1 ⟨rfl, hb1⟩
  have HB1 := Lib.hid hb1
  clear hb1
  gi_wp2
  refine wpIn_loop_rounds 1 ?_
  rw [roundsIn_succ]
  gi_wp2
  rw [Exit.noGoto_normal]
  go_end0
  exact ⟨⟨_, rfl⟩, .inl (HJ.out _ _ _ HJ0.out HB1.out)⟩
end Go.Proofs.YthmigmiojifnkaaDoor
