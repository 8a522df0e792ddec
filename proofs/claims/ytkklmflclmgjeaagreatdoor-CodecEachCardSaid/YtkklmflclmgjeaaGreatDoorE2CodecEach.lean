/-
  What CodecEach reaches beside the base.
-/
import Derived.Test.YtkklmflclmgjeaaGreatDoorE1CodecEach
/-
  CodecEach, its walk.
-/
set_option linter.unusedVariables false
set_option linter.unusedSimpArgs false
set_option linter.unusedVariables false
set_option linter.unusedSimpArgs false
namespace Go.Proofs.YtkklmflclmgjeaaGreatDoor
open Go.RowKit Go.Shelf Go.Lib
attribute [local go_sem] Oper.semAt_some

theorem eql_nilRows (f : Fn) (a b : Array Value) (w : World) : (binOp .eql 78 (.func f a b) .nilFunc).run Tryz.prog w = .ok (.bool false) w := by kernel_rfl
theorem inBlock_exit {id : Nat} {Q : Exit → Act → World → Prop} {a : Act} {w : World} (h : Q .normal a w) : Exit.inBlock id Q (.exit id) a w := by
  unfold Exit.inBlock
  simp only [if_true]
  exact h
theorem Two.sz {w4 V : World} {va vw vA vW u : Value} {LA : List Nat} {LW : List (List Val)} {us : List Value} {l : List Val} (h : Two w4 va vw vA vW u LA LW us l V) : w4.heap.size + 2 ≤ V.heap.size :=
  World.block_lt_of_cell? (w := V) (a := ⟨w4.heap.size + 1, 0, none⟩) h.1.2.2.1
theorem Bel.of_alloc' {w W : World} {o : Obj} {b : Nat} (h : (w.alloc o).grownBy W (some b)) (hb : w.heap.size ≤ b) : Bel w W :=
  (((Below.refl _ w).alloc (Nat.le_refl _) o)).grown h (by simp) (fun j e => by cases e; exact hb)
set_option maxRecDepth 100000 in
set_option maxHeartbeats 40000000 in
theorem kEach_any (vc vk vu : Value) (Ab : Option Addr) (cb : Nat) (cols : List Col) (key : List Int) (uq : List (List Int)) (s : List UInt8) (many : Int) (w : World) (hg : ErrType w) (hc : ColsAt w vc cols) (hk : IntsAt w vk key) (hu : ListsAt w vu uq) (hb : BsAt w (.slice Ab s.length cb) s)
    (hnm : ∀ c ∈ cols, c.name.size ≤ maxLen) : Calls Tryz.prog 12 #[.agg #[vc, vk, vu], .slice Ab s.length cb, .int .i64 many] w fun e w' => e = .returned (.bool true) ∧ Bel w w' := by
  have hnmI : ∀ c ∈ cols, c.name.size ≤ 9223372036854775807 := fun c h => by have := hnm c h; unfold maxLen at this; omega
  have HFW := Lib.hid (fun V (hb : Bel w V) => kfew_any vc vk vu cols key uq V (hc.bel hb) (hk.bel hb) (hu.bel hb) hnm)
  have HW := Lib.hid (fun V (hb : Bel w V) => kworks_any V (hg.bel hb))
  have HTR := Lib.hid (fun V (hb : Bel w V) => tRight_any vc vk vu cols key uq V (hc.bel hb) (hk.bel hb) (hu.bel hb) hnmI)
  have HSQ := Lib.hid (And.intro hc (And.intro hk (And.intro hu hb)))
  have hnf := eql_nilRows
  obtain ⟨W0, hW0⟩ : ∃ W0, W0 = ((w.alloc (.cells #[vc, vk, vu] 26)).alloc (.cells #[.int .i64 many] 3)).alloc (.cells #[.bool false] 4) := ⟨_, rfl⟩
  have HB0 : Hid (Bel w W0) := by show Bel w W0; rw [hW0]; exact (((Bel.refl w).alloc _).alloc _).alloc _
  have HCL : Hid (∀ V, Bel W0 V → (V.cell? ⟨w.heap.size, 0, none⟩ = some vc ∧ V.cell? ⟨w.heap.size, 1, none⟩ = some vk ∧ V.cell? ⟨w.heap.size, 2, none⟩ = some vu) ∧ V.cell? ⟨w.heap.size + 1, 0, none⟩ = some (.int .i64 many) ∧ V.cell? ⟨w.heap.size + 1 + 1, 0, none⟩ = some (.bool false) ∧ V.frozen? ⟨w.heap.size + 1 + 1, 0, none⟩ = false ∧ w.heap.size + 3 ≤ V.heap.size) := fun V h => by
    have hs := h.size
    have hf := Below.frozen h (p := ⟨w.heap.size + 1 + 1, 0, none⟩) (by rw [hW0]; simp)
    rw [hW0] at h hs hf
    exact ⟨⟨h.c (by go_simp), h.c (by go_simp), h.c (by go_simp)⟩, h.c (by go_simp), h.c (by go_simp), hf.trans (by go_simp), by simpa using hs⟩
  have HCS := Lib.hid hc
  obtain ⟨Ac, cc, rfl, -⟩ := hc
  obtain ⟨Ak, ck, rfl, -⟩ := hk
  obtain ⟨Au, cu, rfl, -⟩ := hu
  obtain ⟨Ab', cb', hbe, hbn, hbm, hrd⟩ := hb
  injection hbe with hbe1 hbe2 hbe3
  subst hbe1 hbe3
  have HRD := Lib.hid hrd
  have HBM := Lib.hid (And.intro hbn hbm)
  have hbI : (s.length : Int) ≤ cb := by omega
  have hbJ : (cb : Int) ≤ 9223372036854775807 := by unfold maxLen at hbm; omega
  clear hg hnm hnmI hbe2 hbn hbm hrd
  cases hf : fewB cols key uq
  case false =>
    rw [hf] at HFW
    clear hf
    refine calls_of_wp_marks 12 Tryz.func12 rfl ?_
    simp only [Tryz.ntmps12, List.size_toArray, List.length_cons, List.length_nil, Nat.reduceAdd, Nat.reduceSub, Array.replicate_succ, Array.replicate_zero, List.push_toArray, List.append_toArray, List.nil_append, List.cons_append]
    go_wp2_with fail
    rw [← hW0]
    refine (HFW.out _ HB0.out).mono ?_
    rintro e w4 ⟨rfl, hb4⟩
    go_wp2_with fail
    refine (HW.out _ (HB0.out.then_ hb4)).mono ?_
    rintro e w9 ⟨rfl, hb9⟩
    obtain ⟨-, -, r1, r2, -⟩ := HCL.out _ (hb4.then_ hb9)
    go_wp2
    refine leavesM_nil ?_ ⟨rfl, ?_⟩
    · have hc : (w9.setCell ⟨w.heap.size + 1 + 1, 0, none⟩ (.bool true)).cell? ⟨w.heap.size + 1 + 1, 0, none⟩ = some (.bool true) := by go_simp
      simp [results, Tryz.results12, go_sem, hc]
    · exact ((HB0.out.then_ hb4).then_ hb9).setCell (by simp; omega) _
  rw [hf] at HFW
  clear hf
  by_cases hn40 : 1000 < s.length
  · have hnb : (1000 : Int) < s.length := by omega
    refine calls_of_wp_marks 12 Tryz.func12 rfl ?_
    simp only [Tryz.ntmps12, List.size_toArray, List.length_cons, List.length_nil, Nat.reduceAdd, Nat.reduceSub, Array.replicate_succ, Array.replicate_zero, List.push_toArray, List.append_toArray, List.nil_append, List.cons_append]
    go_wp2_with fail
    rw [← hW0]
    refine (HFW.out _ HB0.out).mono ?_
    rintro e w4 ⟨rfl, hb4⟩
    go_wp2_with fail
    refine (HW.out _ (HB0.out.then_ hb4)).mono ?_
    rintro e w9 ⟨rfl, hb9⟩
    obtain ⟨-, -, r1, r2, -⟩ := HCL.out _ (hb4.then_ hb9)
    go_wp2
    refine leavesM_nil ?_ ⟨rfl, ?_⟩
    · have hc : (w9.setCell ⟨w.heap.size + 1 + 1, 0, none⟩ (.bool true)).cell? ⟨w.heap.size + 1 + 1, 0, none⟩ = some (.bool true) := by go_simp
      simp [results, Tryz.results12, go_sem, hc]
    · exact ((HB0.out.then_ hb4).then_ hb9).setCell (by simp; omega) _
  have hnb : decide ((1000 : Int) < s.length) = false := by simp; omega
  have hsI : (s.length : Int) ≤ 1000 := by omega
  clear hn40
  obtain ⟨L, hL⟩ : ∃ L, L = eachS cols key uq s := ⟨_, rfl⟩
  obtain ⟨R, hR⟩ : ∃ R, R = rightS cols key uq := ⟨_, rfl⟩
  have HLE : Hid ((R = true → L = eachL cols (s.length + 1) 0 s) ∧ (R = false → L = [])) := ⟨fun h => by rw [hL]; unfold eachS; rw [if_pos (hR.symm.trans h)], fun h => by rw [hL]; unfold eachS; rw [if_neg (by rw [← hR, h]; simp)]⟩
  have HL := Lib.hid hL
  have HRR := Lib.hid hR
  rw [← hR] at HTR
  clear hL hR
  obtain ⟨iA, hA0, hA1, hA2, hA3⟩ := info_parts kinfoI
  obtain ⟨iW, hV0, hV1, hV2, hV3⟩ := info_parts kinfoVs
  have hp1 : (0 : Nat) < 1 := by omega
  refine calls_of_wp_marks 12 Tryz.func12 rfl ?_
  simp only [Tryz.ntmps12, List.size_toArray, List.length_cons, List.length_nil, Nat.reduceAdd, Nat.reduceSub, Array.replicate_succ, Array.replicate_zero, List.push_toArray, List.append_toArray, List.nil_append, List.cons_append]
  go_wp2_with fail
  rw [← hW0]
  clear hW0
  refine (HFW.out _ HB0.out).mono ?_
  rintro e w4 ⟨rfl, hb4⟩
  have HB4 := Lib.hid hb4
  clear hb4
  have hal4 : Bel w4 ((w4.alloc (.cells #[.slice none 0 0] 23)).alloc (.cells #[.slice none 0 0] 76)) := ((Bel.refl w4).alloc _).alloc _
  have T4 : Hid (Two w4 (.slice none 0 0) (.slice none 0 0) (.slice none 0 0) (.slice none 0 0) (.slice none 0 0) [] [] [] [] ((w4.alloc (.cells #[.slice none 0 0] 23)).alloc (.cells #[.slice none 0 0] 76))) :=
    ⟨⟨hal4, ⟨by go_simp, by go_simp⟩, by go_simp, by go_simp⟩, World.ownsRow_nil _ _ _ _, World.ownsRow_nil _ _ _ _, ⟨rfl, fun j u l h => by simp at h⟩, _, Nat.le_refl _, World.ownsRow_nil _ _ _ _⟩
  clear hal4
  go_wp2_with fail
  refine wp_meet (Q' := fun e a' V => ∃ (z9 z10 z11 z17 z18 z19 z20 z21 z22 z23 z24 z25 z26 z27 z28 z29 z30 z31 z32 z33 z34 z35 z36 z37 z38 z39 z40 z41 z42 z43 z44 z45 z46 z47 z48 z49 z50 z51 z52 z53 z54 : Value) (us : List Value) (vA vW : Value), e = .exit 0 ∧ a' = { tmps := #[.agg #[.slice Ac cols.length cc, .slice Ak key.length ck, .slice Au uq.length cu], .slice Ab s.length cb, .int .i64 many, .pointer (some ⟨w.heap.size, 0, none⟩), undef, .pointer (some ⟨w.heap.size + 1, 0, none⟩), .pointer (some ⟨w.heap.size + 1 + 1, 0, none⟩), .pointer (some ⟨w4.heap.size, 0, none⟩), .pointer (some ⟨w4.heap.size + 1, 0, none⟩), z9, z10, z11, undef, undef, undef, undef, undef, z17, z18, z19, z20, z21, z22, z23, z24, z25, z26, z27, z28, z29, z30, z31, z32, z33, z34, z35, z36, z37, z38, z39, z40, z41, z42, z43, z44, z45, z46, z47, z48, z49, z50, z51, z52, z53, z54, undef, undef, undef, undef, undef, undef, undef, undef, undef, undef, undef, undef, undef, undef, undef, undef, undef, undef, undef, undef, undef, undef, undef, undef, undef, undef, undef, undef, undef, undef, undef, undef, undef, undef, undef, undef, undef, undef, undef, undef, undef, undef, undef, undef, undef, undef, undef, undef, undef, undef, undef, undef, undef, undef, undef, undef, undef, undef, undef, undef, undef, undef, undef, undef, undef], defers := [] } ∧ Two w4 vA vW vA vW (.slice none 0 0) (L.map (·.1)) (L.map (·.2)) us [] V) ?_ ?_
  · go_loopw [9] (fun v wr => ∃ m : Nat, v = .int .i64 m ∧ m ≤ s.length ∧ ∃ (pre : List (Nat × List Val)) (us : List Value) (vA vW : Value), Hid ((R = true → EachAt cols s L pre m) ∧ (R = false → L = pre)) ∧ Hid (Two w4 vA vW vA vW (.slice none 0 0) (pre.map (·.1)) (pre.map (·.2)) us [] wr) ∧ pre.length ≤ m) (fun v _ => s.length - (intOf v).toNat)
    case atStart => exact ⟨0, rfl, Nat.zero_le _, [], [], _, _, ⟨fun h => by rw [HLE.out.1 h]; exact EachAt.start cols s, fun h => HLE.out.2 h⟩, T4.out, Nat.le_refl _⟩
    case round =>
      obtain ⟨m, rfl, hml, pre, us, vA, vW, HST, T, hpl⟩ := hrel
      obtain ⟨Av, cav, rfl⟩ := row_any T.out.2.1
      obtain ⟨Wv, cwv, rfl⟩ := row_any T.out.2.2.1
      rw [List.length_map, List.length_map] at T
      have hbwr : Bel W0 wr := HB4.out.then_ T.out.1.1
      obtain ⟨⟨a0, a1, a2⟩, -, -, -, -⟩ := HCL.out _ hbwr
      have HTRW := Lib.hid (HTR.out wr (HB0.out.then_ hbwr))
      have hmI : (m : Int) ≤ s.length := by omega
      have HBWR := Lib.hid hbwr
      clear hbwr
      go_wp2_with fail
      refine HTRW.out.mono ?_
      rintro e w5 ⟨rfl, hb5⟩
      clear a0 a1 a2 HTRW
      have T5 := Lib.hid (T.out.bel hb5)
      have hsz5 : w4.heap.size + 2 ≤ w5.heap.size := by
        have := World.block_lt_of_cell? (w := w5) (a := ⟨w4.heap.size + 1, 0, none⟩) T5.out.1.2.2.1
        exact this
      have HB5 := Lib.hid (HBWR.out.then_ hb5)
      obtain ⟨⟨a0, a1, a2⟩, -, -, -, -⟩ := HCL.out _ HB5.out
      have HW5 := Lib.hid (HB0.out.then_ HB5.out)
      clear hb5 T HBWR
      by_cases hRT : R = false
      · subst hRT
        have hLP := HST.out.2 rfl
        have FIN : Hid (Two w4 (.slice Av pre.length cav) (.slice Wv pre.length cwv) (.slice Av pre.length cav) (.slice Wv pre.length cwv) (.slice none 0 0) (L.map (·.1)) (L.map (·.2)) us [] w5) := by rw [hLP]; exact T5.out
        clear HST T5
        go_wp2
        exact ⟨_, _, _, _, _, _, _, _, _, _, _, _, _, _, _, _, _, _, _, _, _, _, _, _, _, _, _, _, _, _, _, _, _, _, _, _, _, _, _, _, _, _, _, _, by first | rfl | trivial, by first | rfl | trivial, FIN.out⟩
      · obtain rfl : R = true := by cases R; exact absurd rfl hRT; rfl
        have HE := Lib.hid (HST.out.1 rfl)
        obtain ⟨hrc, hl1, hl8⟩ := right_cols HRR.out.symm
        have HRC := Lib.hid hrc
        have HS : Hid (∀ V, Bel w5 V → (fun V : World => Bel w5 V ∧ (V.cell? ⟨w.heap.size, 0, none⟩ = some (.slice Ac cols.length cc) ∧ V.cell? ⟨w.heap.size, 1, none⟩ = some (.slice Ak key.length ck) ∧ V.cell? ⟨w.heap.size, 2, none⟩ = some (.slice Au uq.length cu))) V) := fun V h => ⟨h, h.c a0, h.c a1, h.c a2⟩
        have hI4 : ((s.length : Int) - m).toNat = s.length - m := by omega
        have hI5 : ((cb : Int) - m).toNat = cb - m := by omega
        have hdl : (s.drop m).length = s.length - m := List.length_drop
        clear hRT HST hrc a0 a1 a2
        cases Ab with
        | none =>
          obtain rfl : s = [] := by
            cases s with
            | nil => rfl
            | cons d s => have := HRD.out.2 (by simp); obtain ⟨_, h, -⟩ := this; cases h
          obtain rfl : m = 0 := by simpa using hml
          have hq : rdRow cols (List.drop 0 []) = none := rdRow_nil hl1
          have HRE : Hid (∀ V, Bel w5 V → Calls Tryz.prog 44 #[.agg #[.slice Ac cols.length cc, .slice Ak key.length ck, .slice Au uq.length cu], .slice none 0 cb] V (GivesRead4 none V)) := fun V h => by
            have := r4Read_any _ (.slice Ak key.length ck) (.slice Au uq.length cu) (.slice none 0 cb) cols HRC.out (by omega) [] (by simp) V (HCS.out.bel (HW5.out.then_ h)) ⟨none, cb, rfl, Nat.zero_le _, HBM.out.2, Reads.none_⟩
            rw [rdRow_nil hl1] at this
            exact this
          have hLP : L = pre := HE.out.done hq
          clear HRD hq
          go_wp2_with fail
          refine wp_region_noPanic ?_
          refine wp_region_held_drew (S := (fun V : World => Bel w5 V ∧ (V.cell? ⟨w.heap.size, 0, none⟩ = some (.slice Ac cols.length cc) ∧ V.cell? ⟨w.heap.size, 1, none⟩ = some (.slice Ak key.length ck) ∧ V.cell? ⟨w.heap.size, 2, none⟩ = some (.slice Au uq.length cu)))) (by kernel_rfl) ?_ (fun hHr1_0 => ?_)
          · (try dsimp only); (first | assumption | exact HS.out _ (Bel.refl w5).drew | exact HS.out _ ((Bel.refl w5).drew.then_ hb6))
          refine wpAnyH_take (i := 0) (oi := _) (v := ?vr1_1_0) rfl (by kernel_rfl) (by kernel_rfl) (by kernel_rfl) ?hqr1_1_0 (Or.inl ⟨by kernel_rfl, ?hyr1_1_0⟩) (by assumption) ?restr1_1_0
          case hqr1_1_0 => exact fun _ _ _ h => h
          case hyr1_1_0 => (intro w hSw; (try dsimp only at hSw); go_simp; try with_reducible rfl)
          try simp only [Act.put, List.getElem_toArray, List.getElem_cons_succ, List.getElem_cons_zero, List.setIfInBounds_toArray, List.set_cons_zero, List.set_cons_succ]
          refine wpAnyH_take (i := 1) (oi := _) (v := ?vr1_1_1) rfl (by kernel_rfl) (by kernel_rfl) (by kernel_rfl) ?hqr1_1_1 (Or.inl ⟨by kernel_rfl, ?hyr1_1_1⟩) (by assumption) ?restr1_1_1
          case hqr1_1_1 => exact fun _ _ _ h => h
          case hyr1_1_1 => (intro w hSw; (try dsimp only at hSw); go_simp; try with_reducible rfl)
          try simp only [Act.put, List.getElem_toArray, List.getElem_cons_succ, List.getElem_cons_zero, List.setIfInBounds_toArray, List.set_cons_zero, List.set_cons_succ]
          refine wpAnyH_take (i := 2) (oi := _) (v := ?vr1_1_2) rfl (by kernel_rfl) (by kernel_rfl) (by kernel_rfl) ?hqr1_1_2 (Or.inl ⟨by kernel_rfl, ?hyr1_1_2⟩) (by assumption) ?restr1_1_2
          case hqr1_1_2 => exact fun _ _ _ h => h
          case hyr1_1_2 => (intro w hSw; (try dsimp only at hSw); go_simp; try with_reducible rfl)
          try simp only [Act.put, List.getElem_toArray, List.getElem_cons_succ, List.getElem_cons_zero, List.setIfInBounds_toArray, List.set_cons_zero, List.set_cons_succ]
          refine wpAnyH_take (i := 3) (oi := _) (v := ?vr1_1_3) rfl (by kernel_rfl) (by kernel_rfl) (by kernel_rfl) ?hqr1_1_3 (Or.inl ⟨by kernel_rfl, ?hyr1_1_3⟩) (by assumption) ?restr1_1_3
          case hqr1_1_3 => exact fun _ _ _ h => h
          case hyr1_1_3 => (intro w hSw; (try dsimp only at hSw); go_simp; try with_reducible rfl)
          try simp only [Act.put, List.getElem_toArray, List.getElem_cons_succ, List.getElem_cons_zero, List.setIfInBounds_toArray, List.set_cons_zero, List.set_cons_succ]
          refine wpAnyH_ready (rs := [4]) (by kernel_rfl) (by simp) ?_
          refine AllReadyH.cons (o := _) rfl (fun K hK => ?_) AllReadyH.nil
          go_simp
          (go_at_call 44; refine (HRE.out _ (Bel.refl w5).drew).mono ?_; rintro e w6 ⟨rfl, hb6⟩)
          try (go_wp2_with fail)
          refine hK.out _ _ ?_ (fun hHr1_1 => ?_)
          · (try dsimp only); (first | assumption | exact HS.out _ (Bel.refl w5).drew | exact HS.out _ ((Bel.refl w5).drew.then_ hb6))
          clear hK K hHr1_0
          try simp only [Act.put, List.getElem_toArray, List.getElem_cons_succ, List.getElem_cons_zero, List.setIfInBounds_toArray, List.set_cons_zero, List.set_cons_succ]
          refine wpAnyH_take (i := 5) (oi := _) (v := ?vr1_1_5) rfl (by kernel_rfl) (by kernel_rfl) (by kernel_rfl) ?hqr1_1_5 (Or.inl ⟨by kernel_rfl, ?hyr1_1_5⟩) (by assumption) ?restr1_1_5
          case hqr1_1_5 => exact fun _ _ _ h => h
          case hyr1_1_5 => (intro w hSw; (try dsimp only at hSw); go_simp; try with_reducible rfl)
          try simp only [Act.put, List.getElem_toArray, List.getElem_cons_succ, List.getElem_cons_zero, List.setIfInBounds_toArray, List.set_cons_zero, List.set_cons_succ]
          refine wpAnyH_take (i := 6) (oi := _) (v := ?vr1_1_6) rfl (by kernel_rfl) (by kernel_rfl) (by kernel_rfl) ?hqr1_1_6 (Or.inl ⟨by kernel_rfl, ?hyr1_1_6⟩) (by assumption) ?restr1_1_6
          case hqr1_1_6 => exact fun _ _ _ h => h
          case hyr1_1_6 => (intro w hSw; (try dsimp only at hSw); go_simp; try with_reducible rfl)
          try simp only [Act.put, List.getElem_toArray, List.getElem_cons_succ, List.getElem_cons_zero, List.setIfInBounds_toArray, List.set_cons_zero, List.set_cons_succ]
          refine wpAnyH_take (i := 7) (oi := _) (v := ?vr1_1_7) rfl (by kernel_rfl) (by kernel_rfl) (by kernel_rfl) ?hqr1_1_7 (Or.inl ⟨by kernel_rfl, ?hyr1_1_7⟩) (by assumption) ?restr1_1_7
          case hqr1_1_7 => exact fun _ _ _ h => h
          case hyr1_1_7 => (intro w hSw; (try dsimp only at hSw); go_simp; try with_reducible rfl)
          try simp only [Act.put, List.getElem_toArray, List.getElem_cons_succ, List.getElem_cons_zero, List.setIfInBounds_toArray, List.set_cons_zero, List.set_cons_succ]
          refine wpAnyH_take (i := 8) (oi := _) (v := ?vr1_1_8) rfl (by kernel_rfl) (by kernel_rfl) (by kernel_rfl) ?hqr1_1_8 (Or.inl ⟨by kernel_rfl, ?hyr1_1_8⟩) (by assumption) ?restr1_1_8
          case hqr1_1_8 => exact fun _ _ _ h => h
          case hyr1_1_8 => (intro w hSw; (try dsimp only at hSw); go_simp; try with_reducible rfl)
          try simp only [Act.put, List.getElem_toArray, List.getElem_cons_succ, List.getElem_cons_zero, List.setIfInBounds_toArray, List.set_cons_zero, List.set_cons_succ]
          refine wpAnyH_take (i := 9) (oi := _) (v := ?vr1_1_9) rfl (by kernel_rfl) (by kernel_rfl) (by kernel_rfl) ?hqr1_1_9 (Or.inl ⟨by kernel_rfl, ?hyr1_1_9⟩) (by assumption) ?restr1_1_9
          case hqr1_1_9 => exact fun _ _ _ h => h
          case hyr1_1_9 => (intro w hSw; (try dsimp only at hSw); go_simp; try with_reducible rfl)
          try simp only [Act.put, List.getElem_toArray, List.getElem_cons_succ, List.getElem_cons_zero, List.setIfInBounds_toArray, List.set_cons_zero, List.set_cons_succ]
          refine wpAnyH_done (by kernel_rfl) ?_ _
          refine NoPanic.normal ?_
          have FIN : Hid (∃ us vA vW, Two w4 vA vW vA vW (.slice none 0 0) (L.map (·.1)) (L.map (·.2)) us [] w6) := ⟨_, _, _, by rw [hLP]; exact T5.out.bel ((Bel.refl w5).drew.then_ hb6)⟩
          obtain ⟨us9, vA9, vW9, FIN⟩ := FIN.out
          have FIN := Lib.hid FIN
          clear hb6
          go_wp2
          exact ⟨_, _, _, _, _, _, _, _, _, _, _, _, _, _, _, _, _, _, _, _, _, _, _, _, _, _, _, _, _, _, _, _, _, _, _, _, _, _, _, _, _, us9, vA9, vW9, by first | rfl | trivial, by first | rfl | trivial, FIN.out⟩
        | some ad =>
          by_cases hmc : cb = m
          · obtain rfl : m = s.length := by omega
            subst hmc
            have hq : rdRow cols (s.drop s.length) = none := by rw [List.drop_length]; exact rdRow_nil hl1
            have HRE : Hid (∀ V, Bel w5 V → Calls Tryz.prog 44 #[.agg #[.slice Ac cols.length cc, .slice Ak key.length ck, .slice Au uq.length cu], .slice (some ad) 0 0] V (GivesRead4 none V)) := fun V h => by
              have := r4Read_any _ (.slice Ak key.length ck) (.slice Au uq.length cu) (.slice (some ad) 0 0) cols HRC.out (by omega) [] (by simp) V (HCS.out.bel (HW5.out.then_ h)) ⟨some ad, 0, rfl, Nat.zero_le _, Nat.zero_le _, ⟨by simp, fun h => by simp at h⟩⟩
              rw [rdRow_nil hl1] at this
              exact this
            have hLP : L = pre := HE.out.done hq
            clear HRD hq
            go_wp2_with fail
            refine wp_region_noPanic ?_
            refine wp_region_held_drew (S := (fun V : World => Bel w5 V ∧ (V.cell? ⟨w.heap.size, 0, none⟩ = some (.slice Ac cols.length cc) ∧ V.cell? ⟨w.heap.size, 1, none⟩ = some (.slice Ak key.length ck) ∧ V.cell? ⟨w.heap.size, 2, none⟩ = some (.slice Au uq.length cu)))) (by kernel_rfl) ?_ (fun hHr2_0 => ?_)
            · (try dsimp only); (first | assumption | exact HS.out _ (Bel.refl w5).drew | exact HS.out _ ((Bel.refl w5).drew.then_ hb6))
            refine wpAnyH_take (i := 0) (oi := _) (v := ?vr2_1_0) rfl (by kernel_rfl) (by kernel_rfl) (by kernel_rfl) ?hqr2_1_0 (Or.inl ⟨by kernel_rfl, ?hyr2_1_0⟩) (by assumption) ?restr2_1_0
            case hqr2_1_0 => exact fun _ _ _ h => h
            case hyr2_1_0 => (intro w hSw; (try dsimp only at hSw); go_simp; try with_reducible rfl)
            try simp only [Act.put, List.getElem_toArray, List.getElem_cons_succ, List.getElem_cons_zero, List.setIfInBounds_toArray, List.set_cons_zero, List.set_cons_succ]
            refine wpAnyH_take (i := 1) (oi := _) (v := ?vr2_1_1) rfl (by kernel_rfl) (by kernel_rfl) (by kernel_rfl) ?hqr2_1_1 (Or.inl ⟨by kernel_rfl, ?hyr2_1_1⟩) (by assumption) ?restr2_1_1
            case hqr2_1_1 => exact fun _ _ _ h => h
            case hyr2_1_1 => (intro w hSw; (try dsimp only at hSw); go_simp; try with_reducible rfl)
            try simp only [Act.put, List.getElem_toArray, List.getElem_cons_succ, List.getElem_cons_zero, List.setIfInBounds_toArray, List.set_cons_zero, List.set_cons_succ]
            refine wpAnyH_take (i := 2) (oi := _) (v := ?vr2_1_2) rfl (by kernel_rfl) (by kernel_rfl) (by kernel_rfl) ?hqr2_1_2 (Or.inl ⟨by kernel_rfl, ?hyr2_1_2⟩) (by assumption) ?restr2_1_2
            case hqr2_1_2 => exact fun _ _ _ h => h
            case hyr2_1_2 => (intro w hSw; (try dsimp only at hSw); go_simp; try with_reducible rfl)
            try simp only [Act.put, List.getElem_toArray, List.getElem_cons_succ, List.getElem_cons_zero, List.setIfInBounds_toArray, List.set_cons_zero, List.set_cons_succ]
            refine wpAnyH_take (i := 3) (oi := _) (v := ?vr2_1_3) rfl (by kernel_rfl) (by kernel_rfl) (by kernel_rfl) ?hqr2_1_3 (Or.inl ⟨by kernel_rfl, ?hyr2_1_3⟩) (by assumption) ?restr2_1_3
            case hqr2_1_3 => exact fun _ _ _ h => h
            case hyr2_1_3 => (intro w hSw; (try dsimp only at hSw); go_simp; try with_reducible rfl)
            try simp only [Act.put, List.getElem_toArray, List.getElem_cons_succ, List.getElem_cons_zero, List.setIfInBounds_toArray, List.set_cons_zero, List.set_cons_succ]
            refine wpAnyH_ready (rs := [4]) (by kernel_rfl) (by simp) ?_
            refine AllReadyH.cons (o := _) rfl (fun K hK => ?_) AllReadyH.nil
            go_simp
            (go_at_call 44; refine (HRE.out _ (Bel.refl w5).drew).mono ?_; rintro e w6 ⟨rfl, hb6⟩)
            try (go_wp2_with fail)
            refine hK.out _ _ ?_ (fun hHr2_1 => ?_)
            · (try dsimp only); (first | assumption | exact HS.out _ (Bel.refl w5).drew | exact HS.out _ ((Bel.refl w5).drew.then_ hb6))
            clear hK K hHr2_0
            try simp only [Act.put, List.getElem_toArray, List.getElem_cons_succ, List.getElem_cons_zero, List.setIfInBounds_toArray, List.set_cons_zero, List.set_cons_succ]
            refine wpAnyH_take (i := 5) (oi := _) (v := ?vr2_1_5) rfl (by kernel_rfl) (by kernel_rfl) (by kernel_rfl) ?hqr2_1_5 (Or.inl ⟨by kernel_rfl, ?hyr2_1_5⟩) (by assumption) ?restr2_1_5
            case hqr2_1_5 => exact fun _ _ _ h => h
            case hyr2_1_5 => (intro w hSw; (try dsimp only at hSw); go_simp; try with_reducible rfl)
            try simp only [Act.put, List.getElem_toArray, List.getElem_cons_succ, List.getElem_cons_zero, List.setIfInBounds_toArray, List.set_cons_zero, List.set_cons_succ]
            refine wpAnyH_take (i := 6) (oi := _) (v := ?vr2_1_6) rfl (by kernel_rfl) (by kernel_rfl) (by kernel_rfl) ?hqr2_1_6 (Or.inl ⟨by kernel_rfl, ?hyr2_1_6⟩) (by assumption) ?restr2_1_6
            case hqr2_1_6 => exact fun _ _ _ h => h
            case hyr2_1_6 => (intro w hSw; (try dsimp only at hSw); go_simp; try with_reducible rfl)
            try simp only [Act.put, List.getElem_toArray, List.getElem_cons_succ, List.getElem_cons_zero, List.setIfInBounds_toArray, List.set_cons_zero, List.set_cons_succ]
            refine wpAnyH_take (i := 7) (oi := _) (v := ?vr2_1_7) rfl (by kernel_rfl) (by kernel_rfl) (by kernel_rfl) ?hqr2_1_7 (Or.inl ⟨by kernel_rfl, ?hyr2_1_7⟩) (by assumption) ?restr2_1_7
            case hqr2_1_7 => exact fun _ _ _ h => h
            case hyr2_1_7 => (intro w hSw; (try dsimp only at hSw); go_simp; try with_reducible rfl)
            try simp only [Act.put, List.getElem_toArray, List.getElem_cons_succ, List.getElem_cons_zero, List.setIfInBounds_toArray, List.set_cons_zero, List.set_cons_succ]
            refine wpAnyH_take (i := 8) (oi := _) (v := ?vr2_1_8) rfl (by kernel_rfl) (by kernel_rfl) (by kernel_rfl) ?hqr2_1_8 (Or.inl ⟨by kernel_rfl, ?hyr2_1_8⟩) (by assumption) ?restr2_1_8
            case hqr2_1_8 => exact fun _ _ _ h => h
            case hyr2_1_8 => (intro w hSw; (try dsimp only at hSw); go_simp; try with_reducible rfl)
            try simp only [Act.put, List.getElem_toArray, List.getElem_cons_succ, List.getElem_cons_zero, List.setIfInBounds_toArray, List.set_cons_zero, List.set_cons_succ]
            refine wpAnyH_take (i := 9) (oi := _) (v := ?vr2_1_9) rfl (by kernel_rfl) (by kernel_rfl) (by kernel_rfl) ?hqr2_1_9 (Or.inl ⟨by kernel_rfl, ?hyr2_1_9⟩) (by assumption) ?restr2_1_9
            case hqr2_1_9 => exact fun _ _ _ h => h
            case hyr2_1_9 => (intro w hSw; (try dsimp only at hSw); go_simp; try with_reducible rfl)
            try simp only [Act.put, List.getElem_toArray, List.getElem_cons_succ, List.getElem_cons_zero, List.setIfInBounds_toArray, List.set_cons_zero, List.set_cons_succ]
            refine wpAnyH_done (by kernel_rfl) ?_ _
            refine NoPanic.normal ?_
            have FIN : Hid (∃ us vA vW, Two w4 vA vW vA vW (.slice none 0 0) (L.map (·.1)) (L.map (·.2)) us [] w6) := ⟨_, _, _, by rw [hLP]; exact T5.out.bel ((Bel.refl w5).drew.then_ hb6)⟩
            obtain ⟨us9, vA9, vW9, FIN⟩ := FIN.out
            have FIN := Lib.hid FIN
            clear hb6
            go_wp2
            exact ⟨_, _, _, _, _, _, _, _, _, _, _, _, _, _, _, _, _, _, _, _, _, _, _, _, _, _, _, _, _, _, _, _, _, _, _, _, _, _, _, _, _, us9, vA9, vW9, by first | rfl | trivial, by first | rfl | trivial, FIN.out⟩
          · have hcut := HRD.out.cut (k := m) hml HBM.out.1
            rw [Nat.mul_one, ← List.map_drop, if_neg hmc, ← hdl] at hcut
            have HRE : Hid (∀ V, Bel w5 V → Calls Tryz.prog 44 #[.agg #[.slice Ac cols.length cc, .slice Ak key.length ck, .slice Au uq.length cu], .slice (some (ad.add m)) (s.length - m) (cb - m)] V (GivesRead4 (rdRow cols (s.drop m)) V)) := fun V h => by
              have hbV : BsAt V (.slice (some (ad.add m)) (s.length - m) (cb - m)) (s.drop m) := by
                rw [← hdl]
                exact ⟨_, _, rfl, by have := HBM.out.1; omega, by have := HBM.out.2; omega, hcut.belH (HW5.out.then_ h)⟩
              exact r4Read_any _ (.slice Ak key.length ck) (.slice Au uq.length cu) _ cols HRC.out (by omega) (s.drop m) (by omega) V (HCS.out.bel (HW5.out.then_ h)) hbV
            clear hcut
            cases hq : rdRow cols (s.drop m) with
            | none =>
              rw [hq] at HRE
              have hLP : L = pre := HE.out.done hq
              clear HRD hq
              go_wp2_with fail
              refine wp_region_noPanic ?_
              refine wp_region_held_drew (S := (fun V : World => Bel w5 V ∧ (V.cell? ⟨w.heap.size, 0, none⟩ = some (.slice Ac cols.length cc) ∧ V.cell? ⟨w.heap.size, 1, none⟩ = some (.slice Ak key.length ck) ∧ V.cell? ⟨w.heap.size, 2, none⟩ = some (.slice Au uq.length cu)))) (by kernel_rfl) ?_ (fun hHr3_0 => ?_)
              · (try dsimp only); (first | assumption | exact HS.out _ (Bel.refl w5).drew | exact HS.out _ ((Bel.refl w5).drew.then_ hb6))
              refine wpAnyH_take (i := 0) (oi := _) (v := ?vr3_1_0) rfl (by kernel_rfl) (by kernel_rfl) (by kernel_rfl) ?hqr3_1_0 (Or.inl ⟨by kernel_rfl, ?hyr3_1_0⟩) (by assumption) ?restr3_1_0
              case hqr3_1_0 => exact fun _ _ _ h => h
              case hyr3_1_0 => (intro w hSw; (try dsimp only at hSw); go_simp; try with_reducible rfl)
              try simp only [Act.put, List.getElem_toArray, List.getElem_cons_succ, List.getElem_cons_zero, List.setIfInBounds_toArray, List.set_cons_zero, List.set_cons_succ]
              refine wpAnyH_take (i := 1) (oi := _) (v := ?vr3_1_1) rfl (by kernel_rfl) (by kernel_rfl) (by kernel_rfl) ?hqr3_1_1 (Or.inl ⟨by kernel_rfl, ?hyr3_1_1⟩) (by assumption) ?restr3_1_1
              case hqr3_1_1 => exact fun _ _ _ h => h
              case hyr3_1_1 => (intro w hSw; (try dsimp only at hSw); go_simp; try with_reducible rfl)
              try simp only [Act.put, List.getElem_toArray, List.getElem_cons_succ, List.getElem_cons_zero, List.setIfInBounds_toArray, List.set_cons_zero, List.set_cons_succ]
              refine wpAnyH_take (i := 2) (oi := _) (v := ?vr3_1_2) rfl (by kernel_rfl) (by kernel_rfl) (by kernel_rfl) ?hqr3_1_2 (Or.inl ⟨by kernel_rfl, ?hyr3_1_2⟩) (by assumption) ?restr3_1_2
              case hqr3_1_2 => exact fun _ _ _ h => h
              case hyr3_1_2 => (intro w hSw; (try dsimp only at hSw); go_simp; try with_reducible rfl)
              try simp only [Act.put, List.getElem_toArray, List.getElem_cons_succ, List.getElem_cons_zero, List.setIfInBounds_toArray, List.set_cons_zero, List.set_cons_succ]
              refine wpAnyH_take (i := 3) (oi := _) (v := ?vr3_1_3) rfl (by kernel_rfl) (by kernel_rfl) (by kernel_rfl) ?hqr3_1_3 (Or.inl ⟨by kernel_rfl, ?hyr3_1_3⟩) (by assumption) ?restr3_1_3
              case hqr3_1_3 => exact fun _ _ _ h => h
              case hyr3_1_3 => (intro w hSw; (try dsimp only at hSw); go_simp; try with_reducible rfl)
              try simp only [Act.put, List.getElem_toArray, List.getElem_cons_succ, List.getElem_cons_zero, List.setIfInBounds_toArray, List.set_cons_zero, List.set_cons_succ]
              refine wpAnyH_ready (rs := [4]) (by kernel_rfl) (by simp) ?_
              refine AllReadyH.cons (o := _) rfl (fun K hK => ?_) AllReadyH.nil
              go_simp
              (go_at_call 44; refine (HRE.out _ (Bel.refl w5).drew).mono ?_; rintro e w6 ⟨rfl, hb6⟩)
              try (go_wp2_with fail)
              refine hK.out _ _ ?_ (fun hHr3_1 => ?_)
              · (try dsimp only); (first | assumption | exact HS.out _ (Bel.refl w5).drew | exact HS.out _ ((Bel.refl w5).drew.then_ hb6))
              clear hK K hHr3_0
              try simp only [Act.put, List.getElem_toArray, List.getElem_cons_succ, List.getElem_cons_zero, List.setIfInBounds_toArray, List.set_cons_zero, List.set_cons_succ]
              refine wpAnyH_take (i := 5) (oi := _) (v := ?vr3_1_5) rfl (by kernel_rfl) (by kernel_rfl) (by kernel_rfl) ?hqr3_1_5 (Or.inl ⟨by kernel_rfl, ?hyr3_1_5⟩) (by assumption) ?restr3_1_5
              case hqr3_1_5 => exact fun _ _ _ h => h
              case hyr3_1_5 => (intro w hSw; (try dsimp only at hSw); go_simp; try with_reducible rfl)
              try simp only [Act.put, List.getElem_toArray, List.getElem_cons_succ, List.getElem_cons_zero, List.setIfInBounds_toArray, List.set_cons_zero, List.set_cons_succ]
              refine wpAnyH_take (i := 6) (oi := _) (v := ?vr3_1_6) rfl (by kernel_rfl) (by kernel_rfl) (by kernel_rfl) ?hqr3_1_6 (Or.inl ⟨by kernel_rfl, ?hyr3_1_6⟩) (by assumption) ?restr3_1_6
              case hqr3_1_6 => exact fun _ _ _ h => h
              case hyr3_1_6 => (intro w hSw; (try dsimp only at hSw); go_simp; try with_reducible rfl)
              try simp only [Act.put, List.getElem_toArray, List.getElem_cons_succ, List.getElem_cons_zero, List.setIfInBounds_toArray, List.set_cons_zero, List.set_cons_succ]
              refine wpAnyH_take (i := 7) (oi := _) (v := ?vr3_1_7) rfl (by kernel_rfl) (by kernel_rfl) (by kernel_rfl) ?hqr3_1_7 (Or.inl ⟨by kernel_rfl, ?hyr3_1_7⟩) (by assumption) ?restr3_1_7
              case hqr3_1_7 => exact fun _ _ _ h => h
              case hyr3_1_7 => (intro w hSw; (try dsimp only at hSw); go_simp; try with_reducible rfl)
              try simp only [Act.put, List.getElem_toArray, List.getElem_cons_succ, List.getElem_cons_zero, List.setIfInBounds_toArray, List.set_cons_zero, List.set_cons_succ]
              refine wpAnyH_take (i := 8) (oi := _) (v := ?vr3_1_8) rfl (by kernel_rfl) (by kernel_rfl) (by kernel_rfl) ?hqr3_1_8 (Or.inl ⟨by kernel_rfl, ?hyr3_1_8⟩) (by assumption) ?restr3_1_8
              case hqr3_1_8 => exact fun _ _ _ h => h
              case hyr3_1_8 => (intro w hSw; (try dsimp only at hSw); go_simp; try with_reducible rfl)
              try simp only [Act.put, List.getElem_toArray, List.getElem_cons_succ, List.getElem_cons_zero, List.setIfInBounds_toArray, List.set_cons_zero, List.set_cons_succ]
              refine wpAnyH_take (i := 9) (oi := _) (v := ?vr3_1_9) rfl (by kernel_rfl) (by kernel_rfl) (by kernel_rfl) ?hqr3_1_9 (Or.inl ⟨by kernel_rfl, ?hyr3_1_9⟩) (by assumption) ?restr3_1_9
              case hqr3_1_9 => exact fun _ _ _ h => h
              case hyr3_1_9 => (intro w hSw; (try dsimp only at hSw); go_simp; try with_reducible rfl)
              try simp only [Act.put, List.getElem_toArray, List.getElem_cons_succ, List.getElem_cons_zero, List.setIfInBounds_toArray, List.set_cons_zero, List.set_cons_succ]
              refine wpAnyH_done (by kernel_rfl) ?_ _
              refine NoPanic.normal ?_
              have FIN : Hid (∃ us vA vW, Two w4 vA vW vA vW (.slice none 0 0) (L.map (·.1)) (L.map (·.2)) us [] w6) := ⟨_, _, _, by rw [hLP]; exact T5.out.bel ((Bel.refl w5).drew.then_ hb6)⟩
              obtain ⟨us9, vA9, vW9, FIN⟩ := FIN.out
              have FIN := Lib.hid FIN
              clear hb6
              go_wp2
              exact ⟨_, _, _, _, _, _, _, _, _, _, _, _, _, _, _, _, _, _, _, _, _, _, _, _, _, _, _, _, _, _, _, _, _, _, _, _, _, _, _, _, _, us9, vA9, vW9, by first | rfl | trivial, by first | rfl | trivial, FIN.out⟩
            | some p =>
              obtain ⟨l, k⟩ := p
              rw [hq] at HRE
              obtain ⟨hnx, hk1, hkl, rest, hrest⟩ := HE.out.next HRC.out hl1 hq
              have NXT : Hid ((true = true → EachAt cols s L (pre ++ [(m, l)]) (m + k)) ∧ (true = false → L = pre ++ [(m, l)])) := ⟨fun _ => hnx, fun h => by cases h⟩
              have hn0 : ((k : Int) == 0) = false := by rw [beq_eq_false_iff_ne]; omega
              have hwr : IntKind.i64.wrap ((m : Int) + k) = ((m + k : Nat) : Int) := by
                simp only [IntKind.wrap, IntKind.bits, IntKind.signed]
                simp
                omega
              clear HRD hq hnx hrest
              go_wp2_with fail
              refine wp_region_noPanic ?_
              refine wp_region_held_drew (S := (fun V : World => Bel w5 V ∧ (V.cell? ⟨w.heap.size, 0, none⟩ = some (.slice Ac cols.length cc) ∧ V.cell? ⟨w.heap.size, 1, none⟩ = some (.slice Ak key.length ck) ∧ V.cell? ⟨w.heap.size, 2, none⟩ = some (.slice Au uq.length cu)))) (by kernel_rfl) ?_ (fun hHr4_0 => ?_)
              · (try dsimp only); (first | assumption | exact HS.out _ (Bel.refl w5).drew | exact HS.out _ ((Bel.refl w5).drew.then_ hb6))
              refine wpAnyH_take (i := 0) (oi := _) (v := ?vr4_1_0) rfl (by kernel_rfl) (by kernel_rfl) (by kernel_rfl) ?hqr4_1_0 (Or.inl ⟨by kernel_rfl, ?hyr4_1_0⟩) (by assumption) ?restr4_1_0
              case hqr4_1_0 => exact fun _ _ _ h => h
              case hyr4_1_0 => (intro w hSw; (try dsimp only at hSw); go_simp; try with_reducible rfl)
              try simp only [Act.put, List.getElem_toArray, List.getElem_cons_succ, List.getElem_cons_zero, List.setIfInBounds_toArray, List.set_cons_zero, List.set_cons_succ]
              refine wpAnyH_take (i := 1) (oi := _) (v := ?vr4_1_1) rfl (by kernel_rfl) (by kernel_rfl) (by kernel_rfl) ?hqr4_1_1 (Or.inl ⟨by kernel_rfl, ?hyr4_1_1⟩) (by assumption) ?restr4_1_1
              case hqr4_1_1 => exact fun _ _ _ h => h
              case hyr4_1_1 => (intro w hSw; (try dsimp only at hSw); go_simp; try with_reducible rfl)
              try simp only [Act.put, List.getElem_toArray, List.getElem_cons_succ, List.getElem_cons_zero, List.setIfInBounds_toArray, List.set_cons_zero, List.set_cons_succ]
              refine wpAnyH_take (i := 2) (oi := _) (v := ?vr4_1_2) rfl (by kernel_rfl) (by kernel_rfl) (by kernel_rfl) ?hqr4_1_2 (Or.inl ⟨by kernel_rfl, ?hyr4_1_2⟩) (by assumption) ?restr4_1_2
              case hqr4_1_2 => exact fun _ _ _ h => h
              case hyr4_1_2 => (intro w hSw; (try dsimp only at hSw); go_simp; try with_reducible rfl)
              try simp only [Act.put, List.getElem_toArray, List.getElem_cons_succ, List.getElem_cons_zero, List.setIfInBounds_toArray, List.set_cons_zero, List.set_cons_succ]
              refine wpAnyH_take (i := 3) (oi := _) (v := ?vr4_1_3) rfl (by kernel_rfl) (by kernel_rfl) (by kernel_rfl) ?hqr4_1_3 (Or.inl ⟨by kernel_rfl, ?hyr4_1_3⟩) (by assumption) ?restr4_1_3
              case hqr4_1_3 => exact fun _ _ _ h => h
              case hyr4_1_3 => (intro w hSw; (try dsimp only at hSw); go_simp; try with_reducible rfl)
              try simp only [Act.put, List.getElem_toArray, List.getElem_cons_succ, List.getElem_cons_zero, List.setIfInBounds_toArray, List.set_cons_zero, List.set_cons_succ]
              refine wpAnyH_ready (rs := [4]) (by kernel_rfl) (by simp) ?_
              refine AllReadyH.cons (o := _) rfl (fun K hK => ?_) AllReadyH.nil
              go_simp
              (go_at_call 44; refine (HRE.out _ (Bel.refl w5).drew).mono ?_; rintro e w6 ⟨v6, rfl, hv6, hb6⟩; have HV6 := Lib.hid hv6; obtain ⟨A6, c6, rfl⟩ := row_any hv6)
              try (go_wp2_with fail)
              refine hK.out _ _ ?_ (fun hHr4_1 => ?_)
              · (try dsimp only); (first | assumption | exact HS.out _ (Bel.refl w5).drew | exact HS.out _ ((Bel.refl w5).drew.then_ hb6))
              clear hK K hHr4_0
              try simp only [Act.put, List.getElem_toArray, List.getElem_cons_succ, List.getElem_cons_zero, List.setIfInBounds_toArray, List.set_cons_zero, List.set_cons_succ]
              refine wpAnyH_take (i := 5) (oi := _) (v := ?vr4_1_5) rfl (by kernel_rfl) (by kernel_rfl) (by kernel_rfl) ?hqr4_1_5 (Or.inl ⟨by kernel_rfl, ?hyr4_1_5⟩) (by assumption) ?restr4_1_5
              case hqr4_1_5 => exact fun _ _ _ h => h
              case hyr4_1_5 => (intro w hSw; (try dsimp only at hSw); go_simp; try with_reducible rfl)
              try simp only [Act.put, List.getElem_toArray, List.getElem_cons_succ, List.getElem_cons_zero, List.setIfInBounds_toArray, List.set_cons_zero, List.set_cons_succ]
              refine wpAnyH_take (i := 6) (oi := _) (v := ?vr4_1_6) rfl (by kernel_rfl) (by kernel_rfl) (by kernel_rfl) ?hqr4_1_6 (Or.inl ⟨by kernel_rfl, ?hyr4_1_6⟩) (by assumption) ?restr4_1_6
              case hqr4_1_6 => exact fun _ _ _ h => h
              case hyr4_1_6 => (intro w hSw; (try dsimp only at hSw); go_simp; try with_reducible rfl)
              try simp only [Act.put, List.getElem_toArray, List.getElem_cons_succ, List.getElem_cons_zero, List.setIfInBounds_toArray, List.set_cons_zero, List.set_cons_succ]
              refine wpAnyH_take (i := 7) (oi := _) (v := ?vr4_1_7) rfl (by kernel_rfl) (by kernel_rfl) (by kernel_rfl) ?hqr4_1_7 (Or.inl ⟨by kernel_rfl, ?hyr4_1_7⟩) (by assumption) ?restr4_1_7
              case hqr4_1_7 => exact fun _ _ _ h => h
              case hyr4_1_7 => (intro w hSw; (try dsimp only at hSw); go_simp; try with_reducible rfl)
              try simp only [Act.put, List.getElem_toArray, List.getElem_cons_succ, List.getElem_cons_zero, List.setIfInBounds_toArray, List.set_cons_zero, List.set_cons_succ]
              refine wpAnyH_take (i := 8) (oi := _) (v := ?vr4_1_8) rfl (by kernel_rfl) (by kernel_rfl) (by kernel_rfl) ?hqr4_1_8 (Or.inl ⟨by kernel_rfl, ?hyr4_1_8⟩) (by assumption) ?restr4_1_8
              case hqr4_1_8 => exact fun _ _ _ h => h
              case hyr4_1_8 => (intro w hSw; (try dsimp only at hSw); go_simp; try with_reducible rfl)
              try simp only [Act.put, List.getElem_toArray, List.getElem_cons_succ, List.getElem_cons_zero, List.setIfInBounds_toArray, List.set_cons_zero, List.set_cons_succ]
              refine wpAnyH_take (i := 9) (oi := _) (v := ?vr4_1_9) rfl (by kernel_rfl) (by kernel_rfl) (by kernel_rfl) ?hqr4_1_9 (Or.inl ⟨by kernel_rfl, ?hyr4_1_9⟩) (by assumption) ?restr4_1_9
              case hqr4_1_9 => exact fun _ _ _ h => h
              case hyr4_1_9 => (intro w hSw; (try dsimp only at hSw); go_simp; try with_reducible rfl)
              try simp only [Act.put, List.getElem_toArray, List.getElem_cons_succ, List.getElem_cons_zero, List.setIfInBounds_toArray, List.set_cons_zero, List.set_cons_succ]
              refine wpAnyH_done (by kernel_rfl) ?_ _
              refine NoPanic.normal ?_
              have hsz6 : w4.heap.size + 2 ≤ w5.drew.heap.size + 1 := by have := hsz5; simp; omega
              have T6 : Hid (Two w4 (.slice Av pre.length cav) (.slice Wv pre.length cwv) (.slice Av pre.length cav) (.slice Wv pre.length cwv) (.slice A6 l.length c6) (pre.map (·.1)) (pre.map (·.2)) us l w6.drew) := by
                obtain ⟨t1, t2, t3, t4, -⟩ := T5.out.bel (((Bel.refl w5).drew.then_ hb6).then_ (Bel.refl w6).drew)
                exact ⟨t1, t2, t3, t4, _, hsz6, ownsRow_bel HV6.out (Bel.refl w6).drew⟩
              have HI6 : Hid (∀ listed, (fun (listed : Array Bool) (V : World) => Bel w4 V ∧ (listed.getD 8 true = false → V.cell? ⟨w4.heap.size, 0, none⟩ = some (.slice Av pre.length cav)) ∧ (listed.getD 9 true = false → V.cell? ⟨w4.heap.size + 1, 0, none⟩ = some (.slice Wv pre.length cwv))) listed w6.drew) := fun _ => ⟨T6.out.1.1, fun _ => T6.out.1.2.1.1, fun _ => T6.out.1.2.2.1⟩
              have HLA : Hid ((pre.map (·.1)).length = pre.length) := List.length_map ..
              have HLB : Hid (pre.length = (pre.map (·.1)).length) := (List.length_map ..).symm
              have HLW : Hid ((pre.map (·.2)).length = pre.length) := List.length_map ..
              have HLC : Hid (pre.length = (pre.map (·.2)).length) := (List.length_map ..).symm
              have honA : ∀ u ∈ [(.int .i64 m : Value)], u.oneCell' = true := by simp [Value.oneCell']
              have honW : ∀ u ∈ [(.slice A6 l.length c6 : Value)], u.oneCell' = true := by simp [Value.oneCell']
              have h63 : pre.length + 1 ≤ maxLen := by unfold maxLen; omega
              have hbyA : (pre.length + 1) * 8 ≤ 140737488355328 := by omega
              have hbyW : (pre.length + 1) * 24 ≤ 140737488355328 := by omega
              clear hb6 HV6 T5 HS
              go_wp2_with fail
              refine wp_region_noPanic ?_
              refine wp_region_kept (I := fun (listed : Array Bool) (V : World) => Bel w4 V ∧ (listed.getD 8 true = false → V.cell? ⟨w4.heap.size, 0, none⟩ = some (.slice Av pre.length cav)) ∧ (listed.getD 9 true = false → V.cell? ⟨w4.heap.size + 1, 0, none⟩ = some (.slice Wv pre.length cwv))) (by kernel_rfl) ?_
              refine wpAnyK_take (i := 0) 8 (oi := _) (v := ?v0) (S := fun V => V.cell? ⟨w4.heap.size, 0, none⟩ = some (.slice Av pre.length cav)) rfl (by kernel_rfl) (by kernel_rfl) (by kernel_rfl) (by kernel_rfl) (by kernel_rfl) ?hq0 (fun _ _ h hI => hI.2.1 h) (fun _ _ => by rw [getD_set_ne true (by decide : (0 : Nat) ≠ 8), getD_set_ne true (by decide : (0 : Nat) ≠ 9)]) (Or.inl ⟨by kernel_rfl, ?hy0⟩) (HI6.out _) ?rest0
              case hq0 => exact fun _ _ _ h => h
              case hy0 => (intro w hSw; (try dsimp only at hSw); go_simp; try with_reducible rfl)
              try simp only [Act.put, List.getElem_toArray, List.getElem_cons_succ, List.getElem_cons_zero, List.setIfInBounds_toArray, List.set_cons_zero, List.set_cons_succ]
              refine wpAnyK_take (i := 1) 9 (oi := _) (v := ?v1) (S := fun _ => True) rfl (by kernel_rfl) (by kernel_rfl) (by kernel_rfl) (by kernel_rfl) (by kernel_rfl) ?hq1 (fun _ _ _ _ => trivial) (fun _ _ => by rw [getD_set_ne true (by decide : (1 : Nat) ≠ 8), getD_set_ne true (by decide : (1 : Nat) ≠ 9)]) (Or.inl ⟨by kernel_rfl, ?hy1⟩) (HI6.out _) ?rest1
              case hq1 => exact fun _ _ _ h => h
              case hy1 => (intro w hSw; (try dsimp only at hSw); go_simp; try with_reducible rfl)
              try simp only [Act.put, List.getElem_toArray, List.getElem_cons_succ, List.getElem_cons_zero, List.setIfInBounds_toArray, List.set_cons_zero, List.set_cons_succ]
              refine wpAnyK_take (i := 4) 9 (oi := _) (v := ?v4) (S := fun V => V.cell? ⟨w4.heap.size + 1, 0, none⟩ = some (.slice Wv pre.length cwv)) rfl (by kernel_rfl) (by kernel_rfl) (by kernel_rfl) (by kernel_rfl) (by kernel_rfl) ?hq4 (fun _ _ h hI => hI.2.2 h) (fun _ _ => by rw [getD_set_ne true (by decide : (4 : Nat) ≠ 8), getD_set_ne true (by decide : (4 : Nat) ≠ 9)]) (Or.inl ⟨by kernel_rfl, ?hy4⟩) (HI6.out _) ?rest4
              case hq4 => exact fun _ _ _ h => h
              case hy4 => (intro w hSw; (try dsimp only at hSw); go_simp; try with_reducible rfl)
              try simp only [Act.put, List.getElem_toArray, List.getElem_cons_succ, List.getElem_cons_zero, List.setIfInBounds_toArray, List.set_cons_zero, List.set_cons_succ]
              refine wpAnyK_take (i := 5) 9 (oi := _) (v := ?v5) (S := fun _ => True) rfl (by kernel_rfl) (by kernel_rfl) (by kernel_rfl) (by kernel_rfl) (by kernel_rfl) ?hq5 (fun _ _ _ _ => trivial) (fun _ _ => by rw [getD_set_ne true (by decide : (5 : Nat) ≠ 8), getD_set_ne true (by decide : (5 : Nat) ≠ 9)]) (Or.inl ⟨by kernel_rfl, ?hy5⟩) (HI6.out _) ?rest5
              case hq5 => exact fun _ _ _ h => h
              case hy5 => (intro w hSw; (try dsimp only at hSw); go_simp; try with_reducible rfl)
              try simp only [Act.put, List.getElem_toArray, List.getElem_cons_succ, List.getElem_cons_zero, List.setIfInBounds_toArray, List.set_cons_zero, List.set_cons_succ]
              refine wpAnyK_ready (rs := [2, 6]) (by kernel_rfl) (by simp) ?_
              refine AllReadyK.cons (o := _) rfl (fun K hK => ?_) (AllReadyK.cons (o := _) rfl (fun K hK => ?_) AllReadyK.nil)
              · go_simp
                have T61 := Lib.hid (T6.out.bel ((Bel.refl _).alloc (.cells #[.int .i64 m] 3)))
                have X61 := Lib.hid (alloc_new (w6.drew) (.cells #[.int .i64 m] 3) (w6.heap.size) (by simp))
                refine hK.out _ _ ⟨T61.out.1.1, fun _ => T61.out.1.2.1.1, fun _ => T61.out.1.2.2.1⟩ ?_
                clear hK K
                try simp only [Act.put, List.getElem_toArray, List.getElem_cons_succ, List.getElem_cons_zero, List.setIfInBounds_toArray, List.set_cons_zero, List.set_cons_succ]
                refine wpAnyK_ready (rs := [3, 6]) (by kernel_rfl) (by simp) ?_
                refine AllReadyK.cons (o := _) rfl (fun K hK => ?_) (AllReadyK.cons (o := _) rfl (fun K hK => ?_) AllReadyK.nil)
                · rw [if_pos (by first | rfl | kernel_rfl)]
                  refine wp_append_any _ (.tmp 44) (.tmp 46) 23 rfl (w4.heap.size + 2) 3 iA _ 1 8 Tryz.underlying23 hA0 hA1 hA2 hA3 rfl hp1 (.slice Av pre.length cav) pre.length _ (by rfl) (HLA.out ▸ T61.out.2.1) _ (some ⟨_, 0, none⟩) 1 1 _ (by rfl) (reads_blk X61.out) honA h63 hbyA (T61.out.sz) ?_
                  intro v62 w62 hown62 hg62 hat62
                  have T62 := Lib.hid (T61.out.appA (m := m) (HLB.out ▸ hown62) hg62)
                  obtain ⟨A62, c62, rfl⟩ := row_any hown62
                  clear hown62 hg62 hat62
                  refine hK.out _ _ ⟨T62.out.1.1, fun _ => T62.out.1.2.1.1, fun _ => T62.out.1.2.2.1⟩ ?_
                  clear hK K
                  try simp only [Act.put, List.getElem_toArray, List.getElem_cons_succ, List.getElem_cons_zero, List.setIfInBounds_toArray, List.set_cons_zero, List.set_cons_succ]
                  refine wpAnyK_ready (rs := [6]) (by kernel_rfl) (by simp) ?_
                  refine AllReadyK.cons (o := _) rfl (fun K hK => ?_) AllReadyK.nil
                  go_simp
                  have T63 := Lib.hid (T62.out.bel ((Bel.refl _).alloc (.cells #[.slice A6 l.length c6] 27)))
                  have Y63 := Lib.hid (alloc_new (w62) (.cells #[.slice A6 l.length c6] 27) (w62.heap.size) (by simp))
                  refine hK.out _ _ ⟨T63.out.1.1, fun _ => T63.out.1.2.1.1, fun _ => T63.out.1.2.2.1⟩ ?_
                  clear hK K
                  try simp only [Act.put, List.getElem_toArray, List.getElem_cons_succ, List.getElem_cons_zero, List.setIfInBounds_toArray, List.set_cons_zero, List.set_cons_succ]
                  refine wpAnyK_ready (rs := [7]) (by kernel_rfl) (by simp) ?_
                  refine AllReadyK.cons (o := _) rfl (fun K hK => ?_) AllReadyK.nil
                  rw [if_pos (by first | rfl | kernel_rfl)]
                  refine wp_append_any _ (.tmp 48) (.tmp 50) 76 rfl (w4.heap.size + 2) 27 iW _ 1 24 Tryz.underlying76 hV0 hV1 hV2 hV3 rfl hp1 (.slice Wv pre.length cwv) pre.length _ (by rfl) (HLW.out ▸ T63.out.2.2.1) _ (some ⟨_, 0, none⟩) 1 1 _ (by rfl) (reads_blk Y63.out) honW h63 hbyW (T63.out.sz) ?_
                  intro v64 w64 hown64 hg64 hat64
                  have T64 := Lib.hid (T63.out.appW (HLC.out ▸ hown64) hg64)
                  obtain ⟨A64, c64, rfl⟩ := row_any hown64
                  clear hown64 hg64 hat64
                  refine hK.out _ _ ⟨T64.out.1.1, fun _ => T64.out.1.2.1.1, fun _ => T64.out.1.2.2.1⟩ ?_
                  clear hK K
                  try simp only [Act.put, List.getElem_toArray, List.getElem_cons_succ, List.getElem_cons_zero, List.setIfInBounds_toArray, List.set_cons_zero, List.set_cons_succ]
                  refine wpAnyK_ready (rs := [8]) (by kernel_rfl) (by simp) ?_
                  refine AllReadyK.cons (o := _) rfl (fun K hK => ?_) AllReadyK.nil
                  obtain ⟨⟨hs1, ⟨hs2, hs3⟩, hs4, hs5⟩, -⟩ := T64.out
                  go_simp
                  refine hK.out _ _ ⟨hs1.setCell (Nat.le_refl _) _, fun h => absurd h (by decide +kernel), fun _ => by go_simp⟩ ?_
                  clear hK K
                  try simp only [Act.put, List.getElem_toArray, List.getElem_cons_succ, List.getElem_cons_zero, List.setIfInBounds_toArray, List.set_cons_zero, List.set_cons_succ]
                  refine wpAnyK_ready (rs := [9]) (by kernel_rfl) (by simp) ?_
                  refine AllReadyK.cons (o := _) rfl (fun K hK => ?_) AllReadyK.nil
                  go_simp
                  refine hK.out _ _ ⟨(hs1.setCell (Nat.le_refl _) _).setCell (Nat.le_succ _) _, fun h => absurd h (by decide +kernel), fun h => absurd h (by decide +kernel)⟩ ?_
                  clear hK K hs1 hs2 hs3 hs4 hs5
                  try simp only [Act.put, List.getElem_toArray, List.getElem_cons_succ, List.getElem_cons_zero, List.setIfInBounds_toArray, List.set_cons_zero, List.set_cons_succ]
                  refine wpAnyK_done (by kernel_rfl) ?_ _
                  refine NoPanic.normal ?_
                  have FINT := Lib.hid (T64.out.store)
                  clear T64
                  go_wp2
                  go_roundw
                  case rel => exact ⟨m + k, by first | rfl | go_num | (simp; done), by omega, pre ++ [(m, l)], _, _, _, NXT.out, by rw [List.map_append, List.map_append]; exact FINT.out, by rw [List.length_append]; simp; omega⟩
                  case measure => simp [intOf]; omega
                · go_simp
                  have T65 := Lib.hid (T61.out.bel ((Bel.refl _).alloc (.cells #[.slice A6 l.length c6] 27)))
                  have X65 := Lib.hid (((Bel.refl _).alloc (.cells #[.slice A6 l.length c6] 27)).deferred X61.out)
                  have Y65 := Lib.hid (alloc_new ((w6.drew).alloc (.cells #[.int .i64 m] 3)) (.cells #[.slice A6 l.length c6] 27) (w6.heap.size + 1) (by simp))
                  refine hK.out _ _ ⟨T65.out.1.1, fun _ => T65.out.1.2.1.1, fun _ => T65.out.1.2.2.1⟩ ?_
                  clear hK K
                  try simp only [Act.put, List.getElem_toArray, List.getElem_cons_succ, List.getElem_cons_zero, List.setIfInBounds_toArray, List.set_cons_zero, List.set_cons_succ]
                  refine wpAnyK_ready (rs := [3]) (by kernel_rfl) (by simp) ?_
                  refine AllReadyK.cons (o := _) rfl (fun K hK => ?_) AllReadyK.nil
                  rw [if_pos (by first | rfl | kernel_rfl)]
                  refine wp_append_any _ (.tmp 44) (.tmp 46) 23 rfl (w4.heap.size + 2) 3 iA _ 1 8 Tryz.underlying23 hA0 hA1 hA2 hA3 rfl hp1 (.slice Av pre.length cav) pre.length _ (by rfl) (HLA.out ▸ T65.out.2.1) _ (some ⟨_, 0, none⟩) 1 1 _ (by rfl) (reads_blk X65.out) honA h63 hbyA (T65.out.sz) ?_
                  intro v66 w66 hown66 hg66 hat66
                  have T66 := Lib.hid (T65.out.appA (m := m) (HLB.out ▸ hown66) hg66)
                  have Y66 := Lib.hid (blk_keep Y65.out T65.out.2.1 (by decide) hg66)
                  obtain ⟨A66, c66, rfl⟩ := row_any hown66
                  clear hown66 hg66 hat66
                  refine hK.out _ _ ⟨T66.out.1.1, fun _ => T66.out.1.2.1.1, fun _ => T66.out.1.2.2.1⟩ ?_
                  clear hK K
                  try simp only [Act.put, List.getElem_toArray, List.getElem_cons_succ, List.getElem_cons_zero, List.setIfInBounds_toArray, List.set_cons_zero, List.set_cons_succ]
                  refine wpAnyK_ready (rs := [7]) (by kernel_rfl) (by simp) ?_
                  refine AllReadyK.cons (o := _) rfl (fun K hK => ?_) AllReadyK.nil
                  rw [if_pos (by first | rfl | kernel_rfl)]
                  refine wp_append_any _ (.tmp 48) (.tmp 50) 76 rfl (w4.heap.size + 2) 27 iW _ 1 24 Tryz.underlying76 hV0 hV1 hV2 hV3 rfl hp1 (.slice Wv pre.length cwv) pre.length _ (by rfl) (HLW.out ▸ T66.out.2.2.1) _ (some ⟨_, 0, none⟩) 1 1 _ (by rfl) (reads_blk Y66.out) honW h63 hbyW (T66.out.sz) ?_
                  intro v67 w67 hown67 hg67 hat67
                  have T67 := Lib.hid (T66.out.appW (HLC.out ▸ hown67) hg67)
                  obtain ⟨A67, c67, rfl⟩ := row_any hown67
                  clear hown67 hg67 hat67
                  refine hK.out _ _ ⟨T67.out.1.1, fun _ => T67.out.1.2.1.1, fun _ => T67.out.1.2.2.1⟩ ?_
                  clear hK K
                  try simp only [Act.put, List.getElem_toArray, List.getElem_cons_succ, List.getElem_cons_zero, List.setIfInBounds_toArray, List.set_cons_zero, List.set_cons_succ]
                  refine wpAnyK_ready (rs := [8]) (by kernel_rfl) (by simp) ?_
                  refine AllReadyK.cons (o := _) rfl (fun K hK => ?_) AllReadyK.nil
                  obtain ⟨⟨hs1, ⟨hs2, hs3⟩, hs4, hs5⟩, -⟩ := T67.out
                  go_simp
                  refine hK.out _ _ ⟨hs1.setCell (Nat.le_refl _) _, fun h => absurd h (by decide +kernel), fun _ => by go_simp⟩ ?_
                  clear hK K
                  try simp only [Act.put, List.getElem_toArray, List.getElem_cons_succ, List.getElem_cons_zero, List.setIfInBounds_toArray, List.set_cons_zero, List.set_cons_succ]
                  refine wpAnyK_ready (rs := [9]) (by kernel_rfl) (by simp) ?_
                  refine AllReadyK.cons (o := _) rfl (fun K hK => ?_) AllReadyK.nil
                  go_simp
                  refine hK.out _ _ ⟨(hs1.setCell (Nat.le_refl _) _).setCell (Nat.le_succ _) _, fun h => absurd h (by decide +kernel), fun h => absurd h (by decide +kernel)⟩ ?_
                  clear hK K hs1 hs2 hs3 hs4 hs5
                  try simp only [Act.put, List.getElem_toArray, List.getElem_cons_succ, List.getElem_cons_zero, List.setIfInBounds_toArray, List.set_cons_zero, List.set_cons_succ]
                  refine wpAnyK_done (by kernel_rfl) ?_ _
                  refine NoPanic.normal ?_
                  have FINT := Lib.hid (T67.out.store)
                  clear T67
                  go_wp2
                  go_roundw
                  case rel => exact ⟨m + k, by first | rfl | go_num | (simp; done), by omega, pre ++ [(m, l)], _, _, _, NXT.out, by rw [List.map_append, List.map_append]; exact FINT.out, by rw [List.length_append]; simp; omega⟩
                  case measure => simp [intOf]; omega
              · go_simp
                have T68 := Lib.hid (T6.out.bel ((Bel.refl _).alloc (.cells #[.slice A6 l.length c6] 27)))
                have Y68 := Lib.hid (alloc_new (w6.drew) (.cells #[.slice A6 l.length c6] 27) (w6.heap.size) (by simp))
                refine hK.out _ _ ⟨T68.out.1.1, fun _ => T68.out.1.2.1.1, fun _ => T68.out.1.2.2.1⟩ ?_
                clear hK K
                try simp only [Act.put, List.getElem_toArray, List.getElem_cons_succ, List.getElem_cons_zero, List.setIfInBounds_toArray, List.set_cons_zero, List.set_cons_succ]
                refine wpAnyK_ready (rs := [2]) (by kernel_rfl) (by simp) ?_
                refine AllReadyK.cons (o := _) rfl (fun K hK => ?_) AllReadyK.nil
                go_simp
                have T69 := Lib.hid (T68.out.bel ((Bel.refl _).alloc (.cells #[.int .i64 m] 3)))
                have X69 := Lib.hid (alloc_new ((w6.drew).alloc (.cells #[.slice A6 l.length c6] 27)) (.cells #[.int .i64 m] 3) (w6.heap.size + 1) (by simp))
                have Y69 := Lib.hid (((Bel.refl _).alloc (.cells #[.int .i64 m] 3)).deferred Y68.out)
                refine hK.out _ _ ⟨T69.out.1.1, fun _ => T69.out.1.2.1.1, fun _ => T69.out.1.2.2.1⟩ ?_
                clear hK K
                try simp only [Act.put, List.getElem_toArray, List.getElem_cons_succ, List.getElem_cons_zero, List.setIfInBounds_toArray, List.set_cons_zero, List.set_cons_succ]
                refine wpAnyK_ready (rs := [3]) (by kernel_rfl) (by simp) ?_
                refine AllReadyK.cons (o := _) rfl (fun K hK => ?_) AllReadyK.nil
                rw [if_pos (by first | rfl | kernel_rfl)]
                refine wp_append_any _ (.tmp 44) (.tmp 46) 23 rfl (w4.heap.size + 2) 3 iA _ 1 8 Tryz.underlying23 hA0 hA1 hA2 hA3 rfl hp1 (.slice Av pre.length cav) pre.length _ (by rfl) (HLA.out ▸ T69.out.2.1) _ (some ⟨_, 0, none⟩) 1 1 _ (by rfl) (reads_blk X69.out) honA h63 hbyA (T69.out.sz) ?_
                intro v70 w70 hown70 hg70 hat70
                have T70 := Lib.hid (T69.out.appA (m := m) (HLB.out ▸ hown70) hg70)
                have Y70 := Lib.hid (blk_keep Y69.out T69.out.2.1 (by decide) hg70)
                obtain ⟨A70, c70, rfl⟩ := row_any hown70
                clear hown70 hg70 hat70
                refine hK.out _ _ ⟨T70.out.1.1, fun _ => T70.out.1.2.1.1, fun _ => T70.out.1.2.2.1⟩ ?_
                clear hK K
                try simp only [Act.put, List.getElem_toArray, List.getElem_cons_succ, List.getElem_cons_zero, List.setIfInBounds_toArray, List.set_cons_zero, List.set_cons_succ]
                refine wpAnyK_ready (rs := [7]) (by kernel_rfl) (by simp) ?_
                refine AllReadyK.cons (o := _) rfl (fun K hK => ?_) AllReadyK.nil
                rw [if_pos (by first | rfl | kernel_rfl)]
                refine wp_append_any _ (.tmp 48) (.tmp 50) 76 rfl (w4.heap.size + 2) 27 iW _ 1 24 Tryz.underlying76 hV0 hV1 hV2 hV3 rfl hp1 (.slice Wv pre.length cwv) pre.length _ (by rfl) (HLW.out ▸ T70.out.2.2.1) _ (some ⟨_, 0, none⟩) 1 1 _ (by rfl) (reads_blk Y70.out) honW h63 hbyW (T70.out.sz) ?_
                intro v71 w71 hown71 hg71 hat71
                have T71 := Lib.hid (T70.out.appW (HLC.out ▸ hown71) hg71)
                obtain ⟨A71, c71, rfl⟩ := row_any hown71
                clear hown71 hg71 hat71
                refine hK.out _ _ ⟨T71.out.1.1, fun _ => T71.out.1.2.1.1, fun _ => T71.out.1.2.2.1⟩ ?_
                clear hK K
                try simp only [Act.put, List.getElem_toArray, List.getElem_cons_succ, List.getElem_cons_zero, List.setIfInBounds_toArray, List.set_cons_zero, List.set_cons_succ]
                refine wpAnyK_ready (rs := [8]) (by kernel_rfl) (by simp) ?_
                refine AllReadyK.cons (o := _) rfl (fun K hK => ?_) AllReadyK.nil
                obtain ⟨⟨hs1, ⟨hs2, hs3⟩, hs4, hs5⟩, -⟩ := T71.out
                go_simp
                refine hK.out _ _ ⟨hs1.setCell (Nat.le_refl _) _, fun h => absurd h (by decide +kernel), fun _ => by go_simp⟩ ?_
                clear hK K
                try simp only [Act.put, List.getElem_toArray, List.getElem_cons_succ, List.getElem_cons_zero, List.setIfInBounds_toArray, List.set_cons_zero, List.set_cons_succ]
                refine wpAnyK_ready (rs := [9]) (by kernel_rfl) (by simp) ?_
                refine AllReadyK.cons (o := _) rfl (fun K hK => ?_) AllReadyK.nil
                go_simp
                refine hK.out _ _ ⟨(hs1.setCell (Nat.le_refl _) _).setCell (Nat.le_succ _) _, fun h => absurd h (by decide +kernel), fun h => absurd h (by decide +kernel)⟩ ?_
                clear hK K hs1 hs2 hs3 hs4 hs5
                try simp only [Act.put, List.getElem_toArray, List.getElem_cons_succ, List.getElem_cons_zero, List.setIfInBounds_toArray, List.set_cons_zero, List.set_cons_succ]
                refine wpAnyK_done (by kernel_rfl) ?_ _
                refine NoPanic.normal ?_
                have FINT := Lib.hid (T71.out.store)
                clear T71
                go_wp2
                go_roundw
                case rel => exact ⟨m + k, by first | rfl | go_num | (simp; done), by omega, pre ++ [(m, l)], _, _, _, NXT.out, by rw [List.map_append, List.map_append]; exact FINT.out, by rw [List.length_append]; simp; omega⟩
                case measure => simp [intOf]; omega
  · rintro e a' V ⟨z9, z10, z11, z17, z18, z19, z20, z21, z22, z23, z24, z25, z26, z27, z28, z29, z30, z31, z32, z33, z34, z35, z36, z37, z38, z39, z40, z41, z42, z43, z44, z45, z46, z47, z48, z49, z50, z51, z52, z53, z54, us, vA, vW, rfl, rfl, TV⟩
    have TV := Lib.hid TV
    clear HFW HTR HLE HRR HRD HBM HCS T4 hA0 hA1 hA2 hA3 hV0 hV1 hV2 hV3 hp1
    have HBV := Lib.hid ((HB0.out.then_ HB4.out).then_ TV.out.1.1)
    have HCV := Lib.hid (HB4.out.then_ TV.out.1.1)
    obtain ⟨Aw, cw, hvW⟩ := row_any TV.out.2.2.1
    rw [List.length_map] at hvW
    have TVW : Hid (V.cell? ⟨w4.heap.size + 1, 0, none⟩ = some (.slice Aw L.length cw)) := by show _ = _; rw [← hvW]; exact TV.out.1.2.2.1
    have hLI : (L.length : Int) ≤ 9223372036854775807 := by
      rcases TV.out.2.2.1.2 with ⟨-, h0⟩ | ⟨g, cap, cur, -, -, -, h1, h2, -⟩
      · rw [List.length_map] at h0; omega
      · rw [List.length_map] at h1; unfold maxLen at h2; omega
    clear hvW
    have hs4V : w4.heap.size + 2 ≤ V.heap.size := TV.out.sz
    obtain ⟨⟨a0, a1, a2⟩, -, -, -, hsV⟩ := HCL.out _ HCV.out
    refine inBlock_exit ?_
    dsimp only [Exit.then]
    go_at_K
    go_wp2_with fail
    refine (cdEach_any _ _ _ _ _ _ _).mono ?_
    rintro e w' ⟨rfl, rfl⟩
    obtain ⟨W7, hW7⟩ : ∃ W7, W7 = (V.alloc (.cells #[.slice Ac cols.length cc, .slice Ak key.length ck, .slice Au uq.length cu] 26)).alloc (.cells #[.slice Ab s.length cb] 63) := ⟨_, rfl⟩
    have hb7 : Bel V W7 := by rw [hW7]; exact ((Bel.refl V).alloc _).alloc _
    have e0 : W7.cell? ⟨V.heap.size, 0, none⟩ = some (.slice Ac cols.length cc) := by rw [hW7]; go_simp
    have e1 : W7.cell? ⟨V.heap.size, 1, none⟩ = some (.slice Ak key.length ck) := by rw [hW7]; go_simp
    have e2 : W7.cell? ⟨V.heap.size, 2, none⟩ = some (.slice Au uq.length cu) := by rw [hW7]; go_simp
    have e3 : W7.cell? ⟨V.heap.size + 1, 0, none⟩ = some (.slice Ab s.length cb) := by rw [hW7]; go_simp
    have hs7 : W7.heap.size = V.heap.size + 2 := by rw [hW7]; simp
    rw [← hW7]
    have HEV : Hid (W7.cell? ⟨V.heap.size, 0, none⟩ = some (.slice Ac cols.length cc) ∧ W7.cell? ⟨V.heap.size, 1, none⟩ = some (.slice Ak key.length ck) ∧ W7.cell? ⟨V.heap.size, 2, none⟩ = some (.slice Au uq.length cu) ∧ W7.cell? ⟨V.heap.size + 1, 0, none⟩ = some (.slice Ab s.length cb) ∧ W7.heap.size = V.heap.size + 2) := ⟨e0, e1, e2, e3, hs7⟩
    have HB7 := Lib.hid (HBV.out.then_ hb7)
    have HC7 := Lib.hid (HCV.out.then_ hb7)
    have HD7 := Lib.hid hb7
    have hsW : w.heap.size + 3 ≤ W7.heap.size := by omega
    clear hW7 hb7 e0 e1 e2 e3 hs7 a0 a1 a2 hsV
    go_wp2_with fail
    refine wp_loop_rounds 3 ?_
    rw [rounds_succ]
    go_wp2_with fail
    obtain ⟨Wb, hWb⟩ : ∃ Wb, Wb = W7.alloc (.cells #[.int .i64 0] 3) := ⟨_, rfl⟩
    rw [← hWb]
    have hbb : Bel W7 Wb := by rw [hWb]; exact (Bel.refl W7).alloc _
    have e5 : Wb.cell? ⟨W7.heap.size, 0, none⟩ = some (.int .i64 0) := by rw [hWb]; go_simp
    have hWs : Wb.heap.size = W7.heap.size + 1 := by rw [hWb]; simp
    have hseq := cdEach_seq 11 (by omega) (w₀ := w) (w := Wb) (B := V.heap.size) (B2 := V.heap.size + 1) (n₀ := W7.heap.size + 1) (.slice Ac cols.length cc) (.slice Ak key.length ck) (.slice Au uq.length cu) (.slice Ab s.length cb) cols key uq s (by omega) HSQ.out.1 HSQ.out.2.1 HSQ.out.2.2.1 HSQ.out.2.2.2 (by omega) (HB7.out.then_ hbb) (by have := HEV.out.2.2.2.2; omega) (by have := HEV.out.2.2.2.2; omega) (by omega) (hbb.c HEV.out.1) (hbb.c HEV.out.2.1) (hbb.c HEV.out.2.2.1) (hbb.c HEV.out.2.2.2.1)
    rw [← HL.out] at hseq
    have HBB := Lib.hid hbb
    have HWS := Lib.hid hWs
    clear hWb hbb
    refine wp_countr 12 (by omega) (gf := 74) (bd := #[]) (lb := #[.pointer (some ⟨V.heap.size, 0, none⟩), .pointer (some ⟨V.heap.size + 1, 0, none⟩)]) rfl (enters_of Tryz.func74 (by kernel_rfl) rfl) hseq (by simp; have := HWS.out; omega) ((Below.refl _ _).alloc (by have := HWS.out; omega) _) (fun x vs W hE => by obtain ⟨v, e, _⟩ := hE; simp at e; rw [e]; rfl) (erow_own _) (W7.heap.size + 1) (Nat.le_refl _) (by simp; have := HWS.out; omega) (by rw [show W7.heap.size + 1 = Wb.heap.size by have := HWS.out; omega]; go_simp) (by rw [show W7.heap.size + 1 = Wb.heap.size by have := HWS.out; omega]; go_simp) 4 (fun j => decide ((j : Int) ≥ many)) ?round (fun _ _ h => h) ?out
    case round =>
      clear hseq
      intro lp x vs W1 hE
      obtain ⟨u, hvs, hin⟩ := hE
      dsimp only at hvs hin
      subst hvs
      gi_wp2
      refine ⟨(by first | rfl | trivial), fun lp k Wr hx hlp hEb hgW hcn hfn => ?_⟩
      obtain ⟨i, l⟩ := x
      obtain ⟨u2, hvs2, hin2⟩ := hEb
      dsimp only at hvs2 hin2
      have huu : u2 = u := by simp at hvs2; exact hvs2.symm
      subst huu
      have hlt := (List.getElem?_eq_some_iff.1 hx).1
      have hbr : Bel Wb Wr := Bel.of_alloc' hgW (by have := HWS.out; omega)
      have hbrV := (HD7.out.then_ HBB.out).then_ hbr
      obtain ⟨⟨-, -, -⟩, m1, r1, r2, -⟩ := HCL.out _ ((HC7.out.then_ HBB.out).then_ hbr)
      have m5 := hbr.c e5
      obtain ⟨ga, caa, gw, cww, y, hva, d1, hvw, d2, hy⟩ := TV.out.at_ hx
      have m2 : Wr.cell? ⟨w4.heap.size, 0, none⟩ = some (.slice (some ⟨ga, 0, none⟩) L.length caa) := by rw [← hva]; exact hbrV.c TV.out.1.2.1.1
      have m3 : Wr.cell? ⟨w4.heap.size + 1, 0, none⟩ = some (.slice (some ⟨gw, 0, none⟩) L.length cww) := by rw [← hvw]; exact hbrV.c TV.out.1.2.2.1
      have m6 := hbrV.c d1
      have m7 := hbrV.c d2
      have HEQ : Hid (Calls Tryz.prog 22 #[u2, y] Wr fun e w' => e = .returned (.bool true) ∧ Bel Wr w') := by
        have := vrSame_any u2 y l l Wr hin2 (hy.bel hbrV)
        rw [decide_eq_true rfl] at this
        exact this
      obtain ⟨Au2, cu2, rfl, -⟩ := hin2
      obtain ⟨Ay, cy, rfl, -⟩ := hy
      have hii : ((i : Int) != i) = false := by simp
      have hge : decide (L.length ≤ k) = false := by simp; omega
      have hkI : (k : Int) < L.length := by omega
      have HGW := Lib.hid hgW
      have HBR := Lib.hid hbr
      clear hvs2 hin hx hgW hbr hbrV hlt hva hvw d1 d2
      dsimp only
      gi_wp2_with fail
      refine ⟨trivial, ((callsIn_wide.2 HEQ.out).inRound lp).mono ?_⟩
      rintro e w8 ⟨rfl, hb8⟩
      have q1 := hb8.c m1
      have q5 := hb8.c m5
      have q8 := hb8.c hcn
      have g8 := hb8.f hcn hfn
      have HG9 : Hid (Wr.grownBy (w8.setCell ⟨W7.heap.size + 1, 0, none⟩ (.int .i64 ((k : Int) + 1))) (some (W7.heap.size + 1))) := grown_trans (Bel.grown hb8 _) (grown_setCell _ _ _)
      clear hb8 m1 m2 m3 m5 m6 m7 r1 r2 hcn hfn hii hge
      by_cases hmy : many ≤ (k : Int) + 1
      · gi_wp2
        exact HG9.out
      · have hmyb : decide (many ≤ (k : Int) + 1) = false := by simpa using hmy
        gi_wp2
        exact HG9.out
    case out =>
      clear hseq
      intro D k W hcnt hD hgW hcn hdf
      have hk := hcnt.upto
      have hbW : Bel Wb W := Bel.of_alloc' hgW (by have := HWS.out; omega)
      obtain ⟨⟨-, -, -⟩, m1, r1, r2, -⟩ := HCL.out _ ((HC7.out.then_ HBB.out).then_ hbW)
      have m2 := ((HD7.out.then_ HBB.out).then_ hbW).c TVW.out
      have m5 := hbW.c e5
      have HDF := Lib.hid hdf
      have HBb := Lib.hid hbW
      have hk1 : (k : Int) ≤ L.length := by omega
      have hk2 : (k : Int) ≤ max 1 many := by omega
      have hk3 : (L.length : Int) ≤ k ∨ max 1 many ≤ (k : Int) := by omega
      clear hgW hbW hcnt hk hdf e5
      have hmx := ite_max
      have hmn := ite_min
      have hb1 : ((k : Int) != min (L.length : Int) (max 1 many)) = false := by rw [bne_eq_false_iff_eq]; omega
      have hb2 : ((k : Int) == min (L.length : Int) (max 1 many)) = true := by rw [beq_iff_eq]; omega
      go_wp2_with fail
      all_goals
        clear hmx hmn hb1 hb2 hk1 hk2 hk3 hcn
        rw [rounds_succ]
        go_wp2_with fail
        obtain ⟨Wc, hWc⟩ : ∃ Wc, Wc = W.alloc (.cells #[.int .i64 1] 3) := ⟨_, rfl⟩
        rw [← hWc]
        have hbb : Bel W Wc := by rw [hWc]; exact (Bel.refl W).alloc _
        have e5 : Wc.cell? ⟨W.heap.size, 0, none⟩ = some (.int .i64 1) := by rw [hWc]; go_simp
        have hWs : Wc.heap.size = W.heap.size + 1 := by rw [hWc]; simp
        have hbVc : Bel W7 Wc := (HBB.out.then_ HBb.out).then_ hbb
        have hDW : D < W.heap.size := (Array.getElem?_eq_some_iff.1 HDF.out).1
        have HDC : Hid (Wc.heap[D]? = some (.deferred (some []))) := (hbb.block D hDW).trans HDF.out
        have h7W : W7.heap.size ≤ W.heap.size := (HBB.out.then_ HBb.out).size
        have hseq := cdEach_seq 11 (by omega) (w₀ := w) (w := Wc) (B := V.heap.size) (B2 := V.heap.size + 1) (n₀ := W.heap.size + 1) (.slice Ac cols.length cc) (.slice Ak key.length ck) (.slice Au uq.length cu) (.slice Ab s.length cb) cols key uq s (by omega) HSQ.out.1 HSQ.out.2.1 HSQ.out.2.2.1 HSQ.out.2.2.2 (by omega) (HB7.out.then_ hbVc) (by have := HEV.out.2.2.2.2; omega) (by have := HEV.out.2.2.2.2; omega) (by omega) (hbVc.c HEV.out.1) (hbVc.c HEV.out.2.1) (hbVc.c HEV.out.2.2.1) (hbVc.c HEV.out.2.2.2.1)
        rw [← HL.out] at hseq
        have HBC := Lib.hid hbVc
        have HWC := Lib.hid hWs
        have hsV2 : w.heap.size + 3 ≤ W.heap.size := by omega
        clear hWc hbb hbVc m1 m2 m5 r1 r2
        refine wp_countr 12 (by omega) (gf := 74) (bd := #[]) (lb := #[.pointer (some ⟨V.heap.size, 0, none⟩), .pointer (some ⟨V.heap.size + 1, 0, none⟩)]) rfl (enters_of Tryz.func74 (by kernel_rfl) rfl) hseq (by simp; have := HWC.out; omega) ((Below.refl _ _).alloc (by have := HWC.out; omega) _) (fun x vs W hE => by obtain ⟨v, e, _⟩ := hE; simp at e; rw [e]; rfl) (erow_own _) (W.heap.size + 1) (Nat.le_refl _) (by simp; have := HWC.out; omega) (by rw [show W.heap.size + 1 = Wc.heap.size by have := HWC.out; omega]; go_simp) (by rw [show W.heap.size + 1 = Wc.heap.size by have := HWC.out; omega]; go_simp) 4 (fun _ => false) ?round2 (fun _ _ h => h) ?out2
        case round2 =>
          clear hseq
          intro lp x vs W1 hE
          obtain ⟨u, hvs, hin⟩ := hE
          dsimp only at hvs hin
          subst hvs
          gi_wp2
          refine ⟨(by first | rfl | trivial), fun lp k Wr hx hlp hEb hgW hcn hfn => ?_⟩
          obtain ⟨i, l⟩ := x
          obtain ⟨u2, hvs2, hin2⟩ := hEb
          dsimp only at hvs2 hin2
          have huu : u2 = u := by simp at hvs2; exact hvs2.symm
          subst huu
          have hlt := (List.getElem?_eq_some_iff.1 hx).1
          have hbr : Bel Wc Wr := Bel.of_alloc' hgW (by have := HWC.out; omega)
          have hbrV := (HD7.out.then_ HBC.out).then_ hbr
          obtain ⟨⟨-, -, -⟩, m1, r1, r2, -⟩ := HCL.out _ ((HC7.out.then_ HBC.out).then_ hbr)
          have m5 := hbr.c e5
          obtain ⟨ga, caa, gw, cww, y, hva, d1, hvw, d2, hy⟩ := TV.out.at_ hx
          have m2 : Wr.cell? ⟨w4.heap.size, 0, none⟩ = some (.slice (some ⟨ga, 0, none⟩) L.length caa) := by rw [← hva]; exact hbrV.c TV.out.1.2.1.1
          have m3 : Wr.cell? ⟨w4.heap.size + 1, 0, none⟩ = some (.slice (some ⟨gw, 0, none⟩) L.length cww) := by rw [← hvw]; exact hbrV.c TV.out.1.2.2.1
          have m6 := hbrV.c d1
          have m7 := hbrV.c d2
          have HEQ : Hid (Calls Tryz.prog 22 #[u2, y] Wr fun e w' => e = .returned (.bool true) ∧ Bel Wr w') := by
            have := vrSame_any u2 y l l Wr hin2 (hy.bel hbrV)
            rw [decide_eq_true rfl] at this
            exact this
          obtain ⟨Au2, cu2, rfl, -⟩ := hin2
          obtain ⟨Ay, cy, rfl, -⟩ := hy
          have hii : ((i : Int) != i) = false := by simp
          have hge : decide (L.length ≤ k) = false := by simp; omega
          have hkI : (k : Int) < L.length := by omega
          have HGW := Lib.hid hgW
          have HBR := Lib.hid hbr
          clear hvs2 hin hx hgW hbr hbrV hlt hva hvw d1 d2
          dsimp only
          gi_wp2_with fail
          refine ⟨trivial, ((callsIn_wide.2 HEQ.out).inRound lp).mono ?_⟩
          rintro e w8 ⟨rfl, hb8⟩
          have q1 := hb8.c m1
          have q5 := hb8.c m5
          have q8 := hb8.c hcn
          have g8 := hb8.f hcn hfn
          have HG9 : Hid (Wr.grownBy (w8.setCell ⟨W.heap.size + 1, 0, none⟩ (.int .i64 ((k : Int) + 1))) (some (W.heap.size + 1))) := grown_trans (Bel.grown hb8 _) (grown_setCell _ _ _)
          clear hb8 m1 m2 m3 m5 m6 m7 r1 r2 hcn hfn hii hge
          gi_wp2
          all_goals exact HG9.out
        case out2 =>
          clear hseq
          intro D' k' W' hcnt hD' hgW hcn hdf
          have hk := hcnt.all
          have hbW : Bel Wc W' := Bel.of_alloc' hgW (by have := HWC.out; omega)
          obtain ⟨⟨-, -, -⟩, m1, r1, r2, -⟩ := HCL.out _ ((HC7.out.then_ HBC.out).then_ hbW)
          have m2 := ((HD7.out.then_ HBC.out).then_ hbW).c TVW.out
          have m5 := hbW.c e5
          have HDF1 : Hid (W'.heap[D]? = some (.deferred (some []))) := (hbW.block D (Array.getElem?_eq_some_iff.1 HDC.out).1).trans HDC.out
          have HDF2 := Lib.hid hdf
          have HB2 := Lib.hid ((HB7.out.then_ HBC.out).then_ hbW)
          have HC2 := Lib.hid ((HC7.out.then_ HBC.out).then_ hbW)
          have hkk : ((k' : Int) != L.length) = false := by rw [bne_eq_false_iff_eq]; omega
          clear hgW hbW hcnt hdf e5 hk
          go_wp2_with fail
          all_goals
            clear hkk hcn m2 m5
            rw [rounds_succ]
            go_wp2_with fail
            have hba : Bel W' (W'.alloc (.cells #[.int .i64 2] 3)) := (Bel.refl _).alloc _
            refine (HW.out _ (HB2.out.then_ hba)).mono ?_
            rintro e w99 ⟨rfl, hb99⟩
            obtain ⟨-, -, r1, r2, -⟩ := HCL.out _ ((HC2.out.then_ hba).then_ hb99)
            have q1 : w99.heap[D]? = some (.deferred (some [])) := hb99.deferred (hba.deferred HDF1.out)
            have q2 : w99.heap[D']? = some (.deferred (some [])) := hb99.deferred (hba.deferred HDF2.out)
            have q3 : Bel w w99 := (HB2.out.then_ hba).then_ hb99
            have hne : D ≠ D' := fun e => by have := (Array.getElem?_eq_some_iff.1 HDC.out).1; simp at hD'; omega
            have hDw : w.heap.size ≤ D := by simp at hD; have := HWS.out; omega
            have hDw' : w.heap.size ≤ D' := by simp at hD'; have := HWC.out; omega
            clear hba hnf
            go_wp2
            refine leavesM_collected (D := D') (heap_setCell_deferred _ _ q2) (leavesM_collected (D := D) (putObj_deferred (heap_setCell_deferred _ _ q1) hne _) (leavesM_nil ?_ ⟨rfl, ?_⟩))
            · have hc : (w99.setCell ⟨w.heap.size + 1 + 1, 0, none⟩ (.bool true)).cell? ⟨w.heap.size + 1 + 1, 0, none⟩ = some (.bool true) := by go_simp
              have hc2 := cell_putDeferred (cell_putDeferred hc (heap_setCell_deferred ⟨w.heap.size + 1 + 1, 0, none⟩ (.bool true) q2) (.deferred none)) (putObj_deferred (heap_setCell_deferred ⟨w.heap.size + 1 + 1, 0, none⟩ (.bool true) q1) hne (.deferred none)) (.deferred none)
              simp [results, Tryz.results12, go_sem, hc2]
            · exact ((q3.setCell (by simp; omega) _).putObj hDw' _).putObj hDw _
end Go.Proofs.YtkklmflclmgjeaaGreatDoor
