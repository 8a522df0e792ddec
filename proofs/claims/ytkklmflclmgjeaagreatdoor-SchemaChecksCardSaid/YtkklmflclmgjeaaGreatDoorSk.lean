/-
  The document: sets of places, which schemas may be.
-/
import Derived.Test.YtkklmflclmgjeaaGreatDoorSj
import Derived.Test.YtkklmflclmgjeaaGreatDoorSg
set_option linter.unusedVariables false
set_option linter.unusedSimpArgs false
set_option linter.unusedVariables false
set_option linter.unusedSimpArgs false
namespace Go.Proofs.YtkklmflclmgjeaaGreatDoor
open Go.RowKit Go.Shelf Go.Lib
attribute [local go_sem] Oper.semAt_some

set_option maxRecDepth 100000 in
set_option maxHeartbeats 4000000 in
theorem tset_any (v : Value) (l : List Int) (many : Nat) (w : World) (h : IntsAt w v l) : Calls Tryz.prog 69 #[v, .int .i64 many] w fun e w' => e = .returned (.bool (setB l many)) ∧ Bel w w' := by
  obtain ⟨R, hR⟩ : ∃ R, R = setB l many := ⟨_, rfl⟩
  rw [← hR]
  have HR := Lib.hid hR
  clear hR
  obtain ⟨A, c, rfl, hcl, hm, hr⟩ := h
  have hlI : (l.length : Int) ≤ 9223372036854775807 := by unfold maxLen at hm; omega
  have HRR := Lib.hid hr
  clear hr hm
  go_enter Tryz.func69, Tryz.ntmps69
  go_wp2
  go_loopw [5] (fun i wr => ∃ k : Nat, k ≤ l.length ∧ k ≤ 5 ∧ i = .int .i64 k ∧ Hid (∀ j, j < k → inB l many j = true) ∧ Hid (Bel w wr)) (fun i _ => 5 - (intOf i).toNat)
  case atStart => exact ⟨0, Nat.zero_le _, by omega, rfl, fun j hj => by omega, Bel.refl w⟩
  case round =>
    obtain ⟨k, hk, hk5, rfl, HT, HB⟩ := hrel
    by_cases hlt : k < l.length ∧ k < 5
    · obtain ⟨hltl, hlt5⟩ := hlt
      obtain ⟨x, hx⟩ : ∃ x, l[k]? = some x := ⟨_, List.getElem?_eq_getElem hltl⟩
      obtain ⟨b, off, rfl, hi⟩ := HRR.out (by omega)
      have hc1 := HB.out.c (hi k x hx)
      have HI := Lib.hid hi
      have hkI : (k : Int) < l.length := by omega
      have hk5I : (k : Int) < 5 := by omega
      have hgx : l.getD k 0 = x := by simp [List.getD, hx]
      have HIN : Hid (inB l many k = decide (0 ≤ x ∧ x < many ∧ x ∉ l.take k)) := by show _ = _; unfold inB; rw [hgx]
      have HNX : Hid (inB l many k = true → ∀ j, j < k + 1 → inB l many j = true) := fun e j hj => by
        by_cases ej : j = k
        · subst ej; exact e
        · exact HT.out j (by omega)
      have HNO : Hid (inB l many k = false → R = false) := fun e => by rw [HR.out]; exact setB_false hltl e
      clear hi hx hgx HRR
      by_cases hx0 : x < 0
      · have hf := HNO.out (by rw [HIN.out]; exact decide_eq_false (by omega))
        go_wp2
        go_ret
        exact ⟨by first | rfl | (rw [hf]; rfl), by first | exact HB.out | exact HB.out.then_ HBI.out.drew⟩
      · have hx0b : decide (x < 0) = false := by simp; omega
        by_cases hxm : (many : Int) ≤ x
        · have hf := HNO.out (by rw [HIN.out]; exact decide_eq_false (by omega))
          go_wp2
          go_ret
          exact ⟨by first | rfl | (rw [hf]; rfl), by first | exact HB.out | exact HB.out.then_ HBI.out.drew⟩
        · have hxmb : decide ((many : Int) ≤ x) = false := by simp; omega
          go_wp2
          go_loopw [6] (fun i wi => ∃ j : Nat, j ≤ k ∧ i = .int .i64 j ∧ Hid (x ∉ l.take j) ∧ Hid (Bel wr wi)) (fun i _ => k - (intOf i).toNat)
          case atStart => exact ⟨0, Nat.zero_le _, rfl, (by show _ ∉ _; simp), Bel.refl wr⟩
          case round =>
            rename_i wi
            obtain ⟨j, hj, rfl, HJ, HBI⟩ := hrel
            by_cases hjk : j < k
            · obtain ⟨y, hy⟩ : ∃ y, l[j]? = some y := ⟨_, List.getElem?_eq_getElem (by omega)⟩
              have hcj := (HBI.out.drew).c (HB.out.c (HI.out j y hy))
              have hck := (HBI.out.drew).c hc1
              have hjI : (j : Int) < k := by omega
              have hjl : (j : Int) < l.length := by omega
              have HMEM : Hid (y ∈ l.take k) := List.mem_of_getElem? (i := j) (by rw [List.getElem?_take, if_pos hjk]; exact hy)
              have HJN : Hid (¬ x = y → x ∉ l.take (j + 1)) := fun e => by
                rw [List.take_add_one, hy]
                intro hm
                rcases List.mem_append.1 hm with hm | hm
                · exact HJ.out hm
                · simp at hm; exact e hm
              clear hy
              by_cases hxy : y = x
              · have hf := HNO.out (by rw [HIN.out]; exact decide_eq_false (fun e => e.2.2 (by rw [← hxy]; exact HMEM.out)))
                subst hxy
                go_wp2
                refine wp_region_noPanic ?_
                refine wp_region_held_drew (S := (fun V : World => V.cell? ⟨b, off + j, none⟩ = some (.int .i64 y) ∧ V.cell? ⟨b, off + k, none⟩ = some (.int .i64 y))) (by kernel_rfl) ?_ (fun hHr1_0 => ?_)
                · (try dsimp only); exact ⟨hcj, hck⟩
                refine wpAnyH_take (i := 0) (oi := _) (v := ?vr1_1_0) rfl (by kernel_rfl) (by kernel_rfl) (by kernel_rfl) ?hqr1_1_0 (Or.inl ⟨by kernel_rfl, ?hyr1_1_0⟩) (by assumption) ?restr1_1_0
                case hqr1_1_0 => exact fun _ _ _ h => h
                case hyr1_1_0 => (intro w hSw; (try dsimp only at hSw); go_simp; try with_reducible rfl)
                try simp only [Act.put, List.getElem_toArray, List.getElem_cons_succ, List.getElem_cons_zero, List.setIfInBounds_toArray, List.set_cons_zero, List.set_cons_succ]
                refine wpAnyH_take (i := 1) (oi := _) (v := ?vr1_1_1) rfl (by kernel_rfl) (by kernel_rfl) (by kernel_rfl) ?hqr1_1_1 (Or.inl ⟨by kernel_rfl, ?hyr1_1_1⟩) (by assumption) ?restr1_1_1
                case hqr1_1_1 => exact fun _ _ _ h => h
                case hyr1_1_1 => (intro w hSw; (try dsimp only at hSw); go_simp; try with_reducible rfl)
                try simp only [Act.put, List.getElem_toArray, List.getElem_cons_succ, List.getElem_cons_zero, List.setIfInBounds_toArray, List.set_cons_zero, List.set_cons_succ]
                refine wpAnyH_take (i := 2) (oi := _) (v := ?vr1_1_2) rfl (by kernel_rfl) (by kernel_rfl) (by kernel_rfl) ?hqr1_1_2 (Or.inl ⟨by kernel_rfl, ?hyr1_1_2⟩) (by assumption) ?restr1_1_2
                case hqr1_1_2 => exact fun _ _ _ h => h
                case hyr1_1_2 => (intro w hSw; (try dsimp only at hSw); go_simp; try with_reducible rfl)
                try simp only [Act.put, List.getElem_toArray, List.getElem_cons_succ, List.getElem_cons_zero, List.setIfInBounds_toArray, List.set_cons_zero, List.set_cons_succ]
                refine wpAnyH_take (i := 3) (oi := _) (v := ?vr1_1_3) rfl (by kernel_rfl) (by kernel_rfl) (by kernel_rfl) ?hqr1_1_3 (Or.inl ⟨by kernel_rfl, ?hyr1_1_3⟩) (by assumption) ?restr1_1_3
                case hqr1_1_3 => exact fun _ _ _ h => h
                case hyr1_1_3 => (intro w hSw; (try dsimp only at hSw); go_simp; try with_reducible rfl)
                try simp only [Act.put, List.getElem_toArray, List.getElem_cons_succ, List.getElem_cons_zero, List.setIfInBounds_toArray, List.set_cons_zero, List.set_cons_succ]
                refine wpAnyH_take (i := 4) (oi := _) (v := ?vr1_1_4) rfl (by kernel_rfl) (by kernel_rfl) (by kernel_rfl) ?hqr1_1_4 (Or.inl ⟨by kernel_rfl, ?hyr1_1_4⟩) (by assumption) ?restr1_1_4
                case hqr1_1_4 => exact fun _ _ _ h => h
                case hyr1_1_4 => (intro w hSw; (try dsimp only at hSw); go_simp; try with_reducible rfl)
                try simp only [Act.put, List.getElem_toArray, List.getElem_cons_succ, List.getElem_cons_zero, List.setIfInBounds_toArray, List.set_cons_zero, List.set_cons_succ]
                refine wpAnyH_take (i := 5) (oi := _) (v := ?vr1_1_5) rfl (by kernel_rfl) (by kernel_rfl) (by kernel_rfl) ?hqr1_1_5 (Or.inl ⟨by kernel_rfl, ?hyr1_1_5⟩) (by assumption) ?restr1_1_5
                case hqr1_1_5 => exact fun _ _ _ h => h
                case hyr1_1_5 => (intro w hSw; (try dsimp only at hSw); go_simp; try with_reducible rfl)
                try simp only [Act.put, List.getElem_toArray, List.getElem_cons_succ, List.getElem_cons_zero, List.setIfInBounds_toArray, List.set_cons_zero, List.set_cons_succ]
                refine wpAnyH_take (i := 6) (oi := _) (v := ?vr1_1_6) rfl (by kernel_rfl) (by kernel_rfl) (by kernel_rfl) ?hqr1_1_6 (Or.inl ⟨by kernel_rfl, ?hyr1_1_6⟩) (by assumption) ?restr1_1_6
                case hqr1_1_6 => exact fun _ _ _ h => h
                case hyr1_1_6 => (intro w hSw; (try dsimp only at hSw); go_simp; try with_reducible rfl)
                try simp only [Act.put, List.getElem_toArray, List.getElem_cons_succ, List.getElem_cons_zero, List.setIfInBounds_toArray, List.set_cons_zero, List.set_cons_succ]
                refine wpAnyH_take (i := 7) (oi := _) (v := ?vr1_1_7) rfl (by kernel_rfl) (by kernel_rfl) (by kernel_rfl) ?hqr1_1_7 (Or.inl ⟨by kernel_rfl, ?hyr1_1_7⟩) (by assumption) ?restr1_1_7
                case hqr1_1_7 => exact fun _ _ _ h => h
                case hyr1_1_7 => (intro w hSw; (try dsimp only at hSw); go_simp; try with_reducible rfl)
                try simp only [Act.put, List.getElem_toArray, List.getElem_cons_succ, List.getElem_cons_zero, List.setIfInBounds_toArray, List.set_cons_zero, List.set_cons_succ]
                refine wpAnyH_take (i := 8) (oi := _) (v := ?vr1_1_8) rfl (by kernel_rfl) (by kernel_rfl) (by kernel_rfl) ?hqr1_1_8 (Or.inl ⟨by kernel_rfl, ?hyr1_1_8⟩) (by assumption) ?restr1_1_8
                case hqr1_1_8 => exact fun _ _ _ h => h
                case hyr1_1_8 => (intro w hSw; (try dsimp only at hSw); go_simp; try with_reducible rfl)
                try simp only [Act.put, List.getElem_toArray, List.getElem_cons_succ, List.getElem_cons_zero, List.setIfInBounds_toArray, List.set_cons_zero, List.set_cons_succ]
                refine wpAnyH_done (by kernel_rfl) ?_ _
                refine NoPanic.normal ?_
                go_wp2
                go_ret
                exact ⟨by first | rfl | (rw [hf]; rfl), by first | exact HB.out | exact HB.out.then_ HBI.out.drew⟩
              · have hb : (y == x) = false := by rw [beq_eq_false_iff_ne]; exact hxy
                go_wp2
                refine wp_region_noPanic ?_
                refine wp_region_held_drew (S := (fun V : World => V.cell? ⟨b, off + j, none⟩ = some (.int .i64 y) ∧ V.cell? ⟨b, off + k, none⟩ = some (.int .i64 x))) (by kernel_rfl) ?_ (fun hHr2_0 => ?_)
                · (try dsimp only); exact ⟨hcj, hck⟩
                refine wpAnyH_take (i := 0) (oi := _) (v := ?vr2_1_0) rfl (by kernel_rfl) (by kernel_rfl) (by kernel_rfl) ?hqr2_1_0 (Or.inl ⟨by kernel_rfl, ?hyr2_1_0⟩) (by assumption) ?restr2_1_0
                case hqr2_1_0 => exact fun _ _ _ h => h
                case hyr2_1_0 => (intro w hSw; (try dsimp only at hSw); go_simp; try with_reducible rfl)
                try simp only [Act.put, List.getElem_toArray, List.getElem_cons_succ, List.getElem_cons_zero, List.setIfInBounds_toArray, List.set_cons_zero, List.set_cons_succ]
                refine wpAnyH_take (i := 1) (oi := _) (v := ?vr2_1_1) rfl (by kernel_rfl) (by kernel_rfl) (by kernel_rfl) ?hqr2_1_1 (Or.inl ⟨by kernel_rfl, ?hyr2_1_1⟩) (by assumption) ?restr2_1_1
                case hqr2_1_1 => exact fun _ _ _ h => h
                case hyr2_1_1 => (intro w hSw; (try dsimp only at hSw); go_simp; try with_reducible rfl)
                try simp only [Act.put, List.getElem_toArray, List.getElem_cons_succ, List.getElem_cons_zero, List.setIfInBounds_toArray, List.set_cons_zero, List.set_cons_succ]
                refine wpAnyH_take (i := 2) (oi := _) (v := ?vr2_1_2) rfl (by kernel_rfl) (by kernel_rfl) (by kernel_rfl) ?hqr2_1_2 (Or.inl ⟨by kernel_rfl, ?hyr2_1_2⟩) (by assumption) ?restr2_1_2
                case hqr2_1_2 => exact fun _ _ _ h => h
                case hyr2_1_2 => (intro w hSw; (try dsimp only at hSw); go_simp; try with_reducible rfl)
                try simp only [Act.put, List.getElem_toArray, List.getElem_cons_succ, List.getElem_cons_zero, List.setIfInBounds_toArray, List.set_cons_zero, List.set_cons_succ]
                refine wpAnyH_take (i := 3) (oi := _) (v := ?vr2_1_3) rfl (by kernel_rfl) (by kernel_rfl) (by kernel_rfl) ?hqr2_1_3 (Or.inl ⟨by kernel_rfl, ?hyr2_1_3⟩) (by assumption) ?restr2_1_3
                case hqr2_1_3 => exact fun _ _ _ h => h
                case hyr2_1_3 => (intro w hSw; (try dsimp only at hSw); go_simp; try with_reducible rfl)
                try simp only [Act.put, List.getElem_toArray, List.getElem_cons_succ, List.getElem_cons_zero, List.setIfInBounds_toArray, List.set_cons_zero, List.set_cons_succ]
                refine wpAnyH_take (i := 4) (oi := _) (v := ?vr2_1_4) rfl (by kernel_rfl) (by kernel_rfl) (by kernel_rfl) ?hqr2_1_4 (Or.inl ⟨by kernel_rfl, ?hyr2_1_4⟩) (by assumption) ?restr2_1_4
                case hqr2_1_4 => exact fun _ _ _ h => h
                case hyr2_1_4 => (intro w hSw; (try dsimp only at hSw); go_simp; try with_reducible rfl)
                try simp only [Act.put, List.getElem_toArray, List.getElem_cons_succ, List.getElem_cons_zero, List.setIfInBounds_toArray, List.set_cons_zero, List.set_cons_succ]
                refine wpAnyH_take (i := 5) (oi := _) (v := ?vr2_1_5) rfl (by kernel_rfl) (by kernel_rfl) (by kernel_rfl) ?hqr2_1_5 (Or.inl ⟨by kernel_rfl, ?hyr2_1_5⟩) (by assumption) ?restr2_1_5
                case hqr2_1_5 => exact fun _ _ _ h => h
                case hyr2_1_5 => (intro w hSw; (try dsimp only at hSw); go_simp; try with_reducible rfl)
                try simp only [Act.put, List.getElem_toArray, List.getElem_cons_succ, List.getElem_cons_zero, List.setIfInBounds_toArray, List.set_cons_zero, List.set_cons_succ]
                refine wpAnyH_take (i := 6) (oi := _) (v := ?vr2_1_6) rfl (by kernel_rfl) (by kernel_rfl) (by kernel_rfl) ?hqr2_1_6 (Or.inl ⟨by kernel_rfl, ?hyr2_1_6⟩) (by assumption) ?restr2_1_6
                case hqr2_1_6 => exact fun _ _ _ h => h
                case hyr2_1_6 => (intro w hSw; (try dsimp only at hSw); go_simp; try with_reducible rfl)
                try simp only [Act.put, List.getElem_toArray, List.getElem_cons_succ, List.getElem_cons_zero, List.setIfInBounds_toArray, List.set_cons_zero, List.set_cons_succ]
                refine wpAnyH_take (i := 7) (oi := _) (v := ?vr2_1_7) rfl (by kernel_rfl) (by kernel_rfl) (by kernel_rfl) ?hqr2_1_7 (Or.inl ⟨by kernel_rfl, ?hyr2_1_7⟩) (by assumption) ?restr2_1_7
                case hqr2_1_7 => exact fun _ _ _ h => h
                case hyr2_1_7 => (intro w hSw; (try dsimp only at hSw); go_simp; try with_reducible rfl)
                try simp only [Act.put, List.getElem_toArray, List.getElem_cons_succ, List.getElem_cons_zero, List.setIfInBounds_toArray, List.set_cons_zero, List.set_cons_succ]
                refine wpAnyH_take (i := 8) (oi := _) (v := ?vr2_1_8) rfl (by kernel_rfl) (by kernel_rfl) (by kernel_rfl) ?hqr2_1_8 (Or.inl ⟨by kernel_rfl, ?hyr2_1_8⟩) (by assumption) ?restr2_1_8
                case hqr2_1_8 => exact fun _ _ _ h => h
                case hyr2_1_8 => (intro w hSw; (try dsimp only at hSw); go_simp; try with_reducible rfl)
                try simp only [Act.put, List.getElem_toArray, List.getElem_cons_succ, List.getElem_cons_zero, List.setIfInBounds_toArray, List.set_cons_zero, List.set_cons_succ]
                refine wpAnyH_done (by kernel_rfl) ?_ _
                refine NoPanic.normal ?_
                go_wp2
                go_roundw
                case rel => exact ⟨j + 1, by omega, by go_num, HJN.out (fun e => hxy e.symm), HBI.out.drew⟩
                case measure => simp [intOf]; omega
            · obtain rfl : j = k := by omega
              have ht := HNX.out (by rw [HIN.out]; exact decide_eq_true ⟨by omega, by omega, HJ.out⟩)
              have HTT := Lib.hid ht
              clear ht HJ
              go_wp2
              go_roundw
              case rel => exact ⟨j + 1, by omega, by omega, by go_num, HTT.out, HB.out.then_ HBI.out⟩
              case measure => simp [intOf]; omega
    · by_cases h5 : k = 5
      · subst h5
        have HRV : Hid (R = decide (l.length ≤ 4)) := by
          show _ = _
          rw [HR.out]
          rw [decide_eq_false (by omega)]
          unfold setB
          rw [decide_eq_false (by omega)]
          rfl
        have h4 : (4 : Int) < l.length := by omega
        have h4b : decide ((l.length : Int) ≤ 4) = false := by simp; omega
        have h1 : (1 : Int) ≤ l.length := by omega
        have h5I : (5 : Int) ≤ l.length := by omega
        have hf : R = false := by rw [HRV.out]; exact decide_eq_false (by omega)
        clear HT hlt
        go_wp2
        all_goals
          go_ret
          exact ⟨by first | rfl | (rw [hf]; rfl), by first | exact HB.out | exact HB.out.then_ HBI.out.drew⟩
      · obtain rfl : k = l.length := by omega
        have h5b : (l.length : Int) < 5 := by omega
        have h4 : (l.length : Int) ≤ 4 := by omega
        by_cases h1 : 1 ≤ l.length
        · have h1I : (1 : Int) ≤ l.length := by omega
          have ht : R = true := by rw [HR.out]; exact setB_true ⟨h1, by omega⟩ HT.out
          clear HT hlt
          go_wp2
          go_ret
          exact ⟨by first | rfl | (rw [ht]; rfl), by first | exact HB.out | exact HB.out.then_ HBI.out.drew⟩
        · have h1I : decide ((1 : Int) ≤ l.length) = false := by simp; omega
          have h1J : decide (1 ≤ l.length) = false := by rw [decide_eq_false_iff_not]; exact h1
          have hf : R = false := by rw [HR.out]; unfold setB; rw [decide_eq_false (by omega)]; rfl
          clear HT hlt
          go_wp2
          all_goals
            go_ret
            exact ⟨by first | rfl | (rw [hf]; rfl), by first | exact HB.out | exact HB.out.then_ HBI.out.drew⟩
end Go.Proofs.YtkklmflclmgjeaaGreatDoor
