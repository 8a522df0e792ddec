/-
  The document's answer for layer 3: which values fit a column.
-/
import Derived.Test.YtkklmflclmgjeaaGreatDoorSg1
set_option linter.unusedVariables false
set_option linter.unusedSimpArgs false
set_option linter.unusedVariables false
set_option linter.unusedSimpArgs false
namespace Go.Proofs.YtkklmflclmgjeaaGreatDoor
open Go.RowKit Go.Shelf Go.Lib
attribute [local go_sem] Oper.semAt_some

set_option maxRecDepth 100000 in
set_option maxHeartbeats 8000000 in
theorem tFits_any (c : Col) (hm : c.name.size ≤ 9223372036854775807) (x : Val) (hx : x.Wf) (w : World) : Calls Tryz.prog 24 #[c.v, x.v] w fun e w' => e = .returned (.int .i64 (fitsI c x)) ∧ Bel w w' := by
  have HCO := Lib.hid (fun V => tcolumn_any c hm V)
  have HCH := Lib.hid (fun V => vrCheck_any x V)
  have HINT : Hid (rightB c = true → checkI x = 0 → x.k = 1 → c.t = 1 → Calls Tryz.prog 24 #[c.v, x.v] w fun e w' => e = .returned (.int .i64 (fitsI c x)) ∧ Bel w w') := fun h1 h2 h3 h4 => tFitsInt_any c hm x hx h1 h2 h3 h4 w
  obtain ⟨R, hR⟩ : ∃ R, R = fitsI c x := ⟨_, rfl⟩
  rw [← hR] at HINT ⊢
  have HR := Lib.hid hR
  clear hR
  obtain ⟨rb, hrb⟩ : ∃ rb, rb = rightB c := ⟨_, rfl⟩
  rw [← hrb] at HCO
  have HRB := Lib.hid hrb
  rw [← hrb] at HINT
  obtain ⟨ci, hci⟩ : ∃ ci, ci = checkI x := ⟨_, rfl⟩
  rw [← hci] at HCH
  have HCI := Lib.hid hci
  rw [← hci] at HINT
  clear hrb hci hm
  obtain ⟨name, t, z, null⟩ := c
  obtain ⟨k, n, u, b⟩ := x
  obtain ⟨n0, n1, u0, u1⟩ := hx
  unfold Val.v Col.v at *
  dsimp only at *
  have HCL : Hid (∀ V, Bel ((w.alloc (.cells #[.string name, .int .i64 t, .int .i64 z, .bool null] 44)).alloc (.cells #[.int .i64 k, .int .i64 n, .int .u64 u, .string b] 48)) V →
    (V.cell? ⟨w.heap.size, 0, none⟩ = some (.string name) ∧ V.cell? ⟨w.heap.size, 1, none⟩ = some (.int .i64 t) ∧ V.cell? ⟨w.heap.size, 2, none⟩ = some (.int .i64 z) ∧ V.cell? ⟨w.heap.size, 3, none⟩ = some (.bool null) ∧
     V.cell? ⟨w.heap.size + 1, 0, none⟩ = some (.int .i64 k) ∧ V.cell? ⟨w.heap.size + 1, 1, none⟩ = some (.int .i64 n) ∧ V.cell? ⟨w.heap.size + 1, 2, none⟩ = some (.int .u64 u) ∧ V.cell? ⟨w.heap.size + 1, 3, none⟩ = some (.string b)) ∧ Bel w V) :=
    fun V h => ⟨⟨h.c (by go_simp), h.c (by go_simp), h.c (by go_simp), h.c (by go_simp), h.c (by go_simp), h.c (by go_simp), h.c (by go_simp), h.c (by go_simp)⟩, (((Bel.refl w).alloc _).alloc _).then_ h⟩
  cases rb
  · have hR2 : R = 2 := by rw [HR.out]; unfold fitsI; rw [if_pos HRB.out.symm]
    go_enter Tryz.func24, Tryz.ntmps24
    go_wp2_with (go_at_call 56; refine (HCO.out _).mono ?_; rintro e w4 ⟨rfl, hb4⟩; obtain ⟨⟨a0, a1, a2, a3, c0, c1, c2, c3⟩, hB4⟩ := HCL.out _ hb4)
    go_ret
    exact ⟨by rw [hR2]; rfl, hB4⟩
  · by_cases hc0 : ci = 0
    · subst hc0
      have HT : Hid (1 ≤ t ∧ t ≤ 4) := by show _ ∧ _; have h := HRB.out; unfold rightB at h; simp at h; exact h.1.1
      have HSZ : Hid (sizeB t z = true) := by show _ = _; have h := HRB.out; unfold rightB at h; simp at h; exact h.2
      have hR1 : R = if k = 0 then (if null then 0 else 131) else if k ≠ t then 132 else if fitB t z ⟨k, n, u, b⟩ = false then 133 else 0 := by
        rw [HR.out]; unfold fitsI; rw [if_neg (by rw [← HRB.out]; simp), if_neg (by rw [← HCI.out]; simp)]
      clear HR HRB HCI
      by_cases hk0 : k = 0
      · subst hk0
        rw [if_pos rfl] at hR1
        cases null
        all_goals
          have HR1 := Lib.hid hR1
          clear hR1
          go_enter Tryz.func24, Tryz.ntmps24
          go_wp2_with (first | (go_at_call 56; refine (HCO.out _).mono ?_; rintro e w4 ⟨rfl, hb4⟩; obtain ⟨⟨a0, a1, a2, a3, c0, c1, c2, c3⟩, hB4⟩ := HCL.out _ hb4) | (go_at_call 57; refine (HCH.out _).mono ?_; rintro e w5 ⟨rfl, hb5⟩; obtain ⟨⟨d0, d1, d2, d3, e0, e1, e2, e3⟩, hB5⟩ := HCL.out _ (hb4.then_ hb5)))
          go_ret
          exact ⟨by rw [HR1.out]; rfl, hB5⟩
      · rw [if_neg hk0] at hR1
        have hk0b : (k == 0) = false := by rw [beq_eq_false_iff_ne]; exact hk0
        by_cases hkt : k = t
        · subst hkt
          rw [if_neg (by intro h; exact h rfl)] at hR1
          have hktb : (k != k) = false := by simp
          obtain ⟨hT1, hT4⟩ := HT.out
          have hc : k = 1 ∨ k = 2 ∨ k = 3 ∨ k = 4 := by omega
          clear hT1 hT4 hk0 hk0b hktb
          rcases hc with rfl | rfl | rfl | rfl
          · exact HINT.out rfl rfl rfl rfl
          · have hz : z = 1 ∨ z = 2 ∨ z = 4 ∨ z = 8 := by have := HSZ.out; unfold sizeB at this; simpa using this
            have HR1 : Hid (R = if u ≤ mostI z then 0 else 133) := by show _ = _; rw [hR1]; unfold fitB; simp only [show ¬ ((2 : Int) = 0) by decide, if_false, if_true, show ¬ ((2 : Int) = 1) by decide]; split <;> simp_all
            have HLE := Lib.hid (fun V => tmost_any z hz V)
            clear hR1 HSZ
            rcases hz with rfl | rfl | rfl | rfl
            · simp only [mostI] at HLE HR1
              go_enter Tryz.func24, Tryz.ntmps24
              go_wp2_with (first | (go_at_call 56; refine (HCO.out _).mono ?_; rintro e w4 ⟨rfl, hb4⟩; obtain ⟨⟨a0, a1, a2, a3, c0, c1, c2, c3⟩, hB4⟩ := HCL.out _ hb4) | (go_at_call 57; refine (HCH.out _).mono ?_; rintro e w5 ⟨rfl, hb5⟩; obtain ⟨⟨d0, d1, d2, d3, e0, e1, e2, e3⟩, hB5⟩ := HCL.out _ (hb4.then_ hb5)))
              refine wp_region_noPanic ?_
              refine wp_region_held_drew (S := (fun V : World => Bel w5 V)) (by kernel_rfl) ?_ (fun hHr1_0 => ?_)
              · (try dsimp only); (first | assumption | exact (Bel.refl w5).drew)
              refine wpAnyH_take (i := 0) (oi := _) (v := ?vr1_1_0) rfl (by kernel_rfl) (by kernel_rfl) (by kernel_rfl) ?hqr1_1_0 (Or.inl ⟨by kernel_rfl, ?hyr1_1_0⟩) (by assumption) ?restr1_1_0
              case hqr1_1_0 => exact fun _ _ _ h => h
              case hyr1_1_0 => (intro w hSw; (try dsimp only at hSw); go_simp; try with_reducible rfl)
              try simp only [Act.put, List.getElem_toArray, List.getElem_cons_succ, List.getElem_cons_zero, List.setIfInBounds_toArray, List.set_cons_zero, List.set_cons_succ]
              refine wpAnyH_take (i := 1) (oi := _) (v := ?vr1_1_1) rfl (by kernel_rfl) (by kernel_rfl) (by kernel_rfl) ?hqr1_1_1 (Or.inl ⟨by kernel_rfl, ?hyr1_1_1⟩) (by assumption) ?restr1_1_1
              case hqr1_1_1 => exact fun _ _ _ h => h
              case hyr1_1_1 => (intro w hSw; (try dsimp only at hSw); go_simp; try with_reducible rfl)
              try simp only [Act.put, List.getElem_toArray, List.getElem_cons_succ, List.getElem_cons_zero, List.setIfInBounds_toArray, List.set_cons_zero, List.set_cons_succ]
              refine wpAnyH_take (i := 2) (oi := _) (v := ?vr1_1_2) rfl (by kernel_rfl) (by kernel_rfl) (by kernel_rfl) ?hqr1_1_2 (Or.inl ⟨by kernel_rfl, ?hyr1_1_2⟩) (by assumption) ?restr1_1_2
              case hqr1_1_2 => exact fun _ _ _ h => h
              case hyr1_1_2 => (intro w hSw; (try dsimp only at hSw); go_simp; try with_reducible rfl)
              try simp only [Act.put, List.getElem_toArray, List.getElem_cons_succ, List.getElem_cons_zero, List.setIfInBounds_toArray, List.set_cons_zero, List.set_cons_succ]
              refine wpAnyH_take (i := 3) (oi := _) (v := undef) rfl (by kernel_rfl) (by kernel_rfl) (by kernel_rfl) (fun _ _ _ h => h) (Or.inr ⟨by kernel_rfl, rfl⟩) (by assumption) ?restr1_1_3
              try simp only [Act.put, List.getElem_toArray, List.getElem_cons_succ, List.getElem_cons_zero, List.setIfInBounds_toArray, List.set_cons_zero, List.set_cons_succ]
              refine wpAnyH_take (i := 4) (oi := _) (v := undef) rfl (by kernel_rfl) (by kernel_rfl) (by kernel_rfl) (fun _ _ _ h => h) (Or.inr ⟨by kernel_rfl, rfl⟩) (by assumption) ?restr1_1_4
              try simp only [Act.put, List.getElem_toArray, List.getElem_cons_succ, List.getElem_cons_zero, List.setIfInBounds_toArray, List.set_cons_zero, List.set_cons_succ]
              refine wpAnyH_take (i := 5) (oi := _) (v := undef) rfl (by kernel_rfl) (by kernel_rfl) (by kernel_rfl) (fun _ _ _ h => h) (Or.inr ⟨by kernel_rfl, rfl⟩) (by assumption) ?restr1_1_5
              try simp only [Act.put, List.getElem_toArray, List.getElem_cons_succ, List.getElem_cons_zero, List.setIfInBounds_toArray, List.set_cons_zero, List.set_cons_succ]
              refine wpAnyH_take (i := 6) (oi := _) (v := undef) rfl (by kernel_rfl) (by kernel_rfl) (by kernel_rfl) (fun _ _ _ h => h) (Or.inr ⟨by kernel_rfl, rfl⟩) (by assumption) ?restr1_1_6
              try simp only [Act.put, List.getElem_toArray, List.getElem_cons_succ, List.getElem_cons_zero, List.setIfInBounds_toArray, List.set_cons_zero, List.set_cons_succ]
              refine wpAnyH_take (i := 7) (oi := _) (v := undef) rfl (by kernel_rfl) (by kernel_rfl) (by kernel_rfl) (fun _ _ _ h => h) (Or.inr ⟨by kernel_rfl, rfl⟩) (by assumption) ?restr1_1_7
              try simp only [Act.put, List.getElem_toArray, List.getElem_cons_succ, List.getElem_cons_zero, List.setIfInBounds_toArray, List.set_cons_zero, List.set_cons_succ]
              refine wpAnyH_take (i := 8) (oi := _) (v := undef) rfl (by kernel_rfl) (by kernel_rfl) (by kernel_rfl) (fun _ _ _ h => h) (Or.inr ⟨by kernel_rfl, rfl⟩) (by assumption) ?restr1_1_8
              try simp only [Act.put, List.getElem_toArray, List.getElem_cons_succ, List.getElem_cons_zero, List.setIfInBounds_toArray, List.set_cons_zero, List.set_cons_succ]
              refine wpAnyH_take (i := 9) (oi := _) (v := undef) rfl (by kernel_rfl) (by kernel_rfl) (by kernel_rfl) (fun _ _ _ h => h) (Or.inr ⟨by kernel_rfl, rfl⟩) (by assumption) ?restr1_1_9
              try simp only [Act.put, List.getElem_toArray, List.getElem_cons_succ, List.getElem_cons_zero, List.setIfInBounds_toArray, List.set_cons_zero, List.set_cons_succ]
              refine wpAnyH_take (i := 10) (oi := _) (v := undef) rfl (by kernel_rfl) (by kernel_rfl) (by kernel_rfl) (fun _ _ _ h => h) (Or.inr ⟨by kernel_rfl, rfl⟩) (by assumption) ?restr1_1_10
              try simp only [Act.put, List.getElem_toArray, List.getElem_cons_succ, List.getElem_cons_zero, List.setIfInBounds_toArray, List.set_cons_zero, List.set_cons_succ]
              refine wpAnyH_take (i := 11) (oi := _) (v := undef) rfl (by kernel_rfl) (by kernel_rfl) (by kernel_rfl) (fun _ _ _ h => h) (Or.inr ⟨by kernel_rfl, rfl⟩) (by assumption) ?restr1_1_11
              try simp only [Act.put, List.getElem_toArray, List.getElem_cons_succ, List.getElem_cons_zero, List.setIfInBounds_toArray, List.set_cons_zero, List.set_cons_succ]
              refine wpAnyH_take (i := 12) (oi := _) (v := undef) rfl (by kernel_rfl) (by kernel_rfl) (by kernel_rfl) (fun _ _ _ h => h) (Or.inr ⟨by kernel_rfl, rfl⟩) (by assumption) ?restr1_1_12
              try simp only [Act.put, List.getElem_toArray, List.getElem_cons_succ, List.getElem_cons_zero, List.setIfInBounds_toArray, List.set_cons_zero, List.set_cons_succ]
              refine wpAnyH_take (i := 13) (oi := _) (v := undef) rfl (by kernel_rfl) (by kernel_rfl) (by kernel_rfl) (fun _ _ _ h => h) (Or.inr ⟨by kernel_rfl, rfl⟩) (by assumption) ?restr1_1_13
              try simp only [Act.put, List.getElem_toArray, List.getElem_cons_succ, List.getElem_cons_zero, List.setIfInBounds_toArray, List.set_cons_zero, List.set_cons_succ]
              refine wpAnyH_take (i := 14) (oi := _) (v := undef) rfl (by kernel_rfl) (by kernel_rfl) (by kernel_rfl) (fun _ _ _ h => h) (Or.inr ⟨by kernel_rfl, rfl⟩) (by assumption) ?restr1_1_14
              try simp only [Act.put, List.getElem_toArray, List.getElem_cons_succ, List.getElem_cons_zero, List.setIfInBounds_toArray, List.set_cons_zero, List.set_cons_succ]
              refine wpAnyH_take (i := 15) (oi := _) (v := undef) rfl (by kernel_rfl) (by kernel_rfl) (by kernel_rfl) (fun _ _ _ h => h) (Or.inr ⟨by kernel_rfl, rfl⟩) (by assumption) ?restr1_1_15
              try simp only [Act.put, List.getElem_toArray, List.getElem_cons_succ, List.getElem_cons_zero, List.setIfInBounds_toArray, List.set_cons_zero, List.set_cons_succ]
              refine wpAnyH_take (i := 16) (oi := _) (v := undef) rfl (by kernel_rfl) (by kernel_rfl) (by kernel_rfl) (fun _ _ _ h => h) (Or.inr ⟨by kernel_rfl, rfl⟩) (by assumption) ?restr1_1_16
              try simp only [Act.put, List.getElem_toArray, List.getElem_cons_succ, List.getElem_cons_zero, List.setIfInBounds_toArray, List.set_cons_zero, List.set_cons_succ]
              refine wpAnyH_take (i := 17) (oi := _) (v := undef) rfl (by kernel_rfl) (by kernel_rfl) (by kernel_rfl) (fun _ _ _ h => h) (Or.inr ⟨by kernel_rfl, rfl⟩) (by assumption) ?restr1_1_17
              try simp only [Act.put, List.getElem_toArray, List.getElem_cons_succ, List.getElem_cons_zero, List.setIfInBounds_toArray, List.set_cons_zero, List.set_cons_succ]
              refine wpAnyH_take (i := 18) (oi := _) (v := undef) rfl (by kernel_rfl) (by kernel_rfl) (by kernel_rfl) (fun _ _ _ h => h) (Or.inr ⟨by kernel_rfl, rfl⟩) (by assumption) ?restr1_1_18
              try simp only [Act.put, List.getElem_toArray, List.getElem_cons_succ, List.getElem_cons_zero, List.setIfInBounds_toArray, List.set_cons_zero, List.set_cons_succ]
              refine wpAnyH_take (i := 19) (oi := _) (v := ?vr1_1_19) rfl (by kernel_rfl) (by kernel_rfl) (by kernel_rfl) ?hqr1_1_19 (Or.inl ⟨by kernel_rfl, ?hyr1_1_19⟩) (by assumption) ?restr1_1_19
              case hqr1_1_19 => exact fun _ _ _ h => h
              case hyr1_1_19 => (intro w hSw; (try dsimp only at hSw); go_simp; try with_reducible rfl)
              try simp only [Act.put, List.getElem_toArray, List.getElem_cons_succ, List.getElem_cons_zero, List.setIfInBounds_toArray, List.set_cons_zero, List.set_cons_succ]
              refine wpAnyH_take (i := 20) (oi := _) (v := ?vr1_1_20) rfl (by kernel_rfl) (by kernel_rfl) (by kernel_rfl) ?hqr1_1_20 (Or.inl ⟨by kernel_rfl, ?hyr1_1_20⟩) (by assumption) ?restr1_1_20
              case hqr1_1_20 => exact fun _ _ _ h => h
              case hyr1_1_20 => (intro w hSw; (try dsimp only at hSw); go_simp; try with_reducible rfl)
              try simp only [Act.put, List.getElem_toArray, List.getElem_cons_succ, List.getElem_cons_zero, List.setIfInBounds_toArray, List.set_cons_zero, List.set_cons_succ]
              refine wpAnyH_done (by kernel_rfl) ?_ _
              refine NoPanic.normal ?_
              go_wp2
              have hS : ∀ V, Bel w5 V → (V.cell? ⟨w.heap.size, 2, none⟩ = some (.int .i64 1) ∧ V.cell? ⟨w.heap.size + 1, 2, none⟩ = some (.int .u64 u) ∧ Bel w5 V) := fun V h => ⟨h.c d2, h.c e2, h⟩
              by_cases hl : 255 < u
              · have hR2 : R = 133 := by rw [HR1.out, if_neg (by omega)]
                refine wp_region_noPanic ?_
                refine wp_region_held_drew (S := (fun V : World => V.cell? ⟨w.heap.size, 2, none⟩ = some (.int .i64 1) ∧ V.cell? ⟨w.heap.size + 1, 2, none⟩ = some (.int .u64 u) ∧ Bel w5 V)) (by kernel_rfl) ?_ (fun hHr2_0 => ?_)
                · (try dsimp only); (first | assumption | exact hS _ (Bel.refl w5).drew.drew | exact hS _ hB6)
                refine wpAnyH_take (i := 0) (oi := _) (v := ?vr2_1_0) rfl (by kernel_rfl) (by kernel_rfl) (by kernel_rfl) ?hqr2_1_0 (Or.inl ⟨by kernel_rfl, ?hyr2_1_0⟩) (by assumption) ?restr2_1_0
                case hqr2_1_0 => exact fun _ _ _ h => h
                case hyr2_1_0 => (intro w hSw; (try dsimp only at hSw); go_simp; try with_reducible rfl)
                try simp only [Act.put, List.getElem_toArray, List.getElem_cons_succ, List.getElem_cons_zero, List.setIfInBounds_toArray, List.set_cons_zero, List.set_cons_succ]
                refine wpAnyH_take (i := 1) (oi := _) (v := ?vr2_1_1) rfl (by kernel_rfl) (by kernel_rfl) (by kernel_rfl) ?hqr2_1_1 (Or.inl ⟨by kernel_rfl, ?hyr2_1_1⟩) (by assumption) ?restr2_1_1
                case hqr2_1_1 => exact fun _ _ _ h => h
                case hyr2_1_1 => (intro w hSw; (try dsimp only at hSw); go_simp; try with_reducible rfl)
                try simp only [Act.put, List.getElem_toArray, List.getElem_cons_succ, List.getElem_cons_zero, List.setIfInBounds_toArray, List.set_cons_zero, List.set_cons_succ]
                refine wpAnyH_take (i := 2) (oi := _) (v := ?vr2_1_2) rfl (by kernel_rfl) (by kernel_rfl) (by kernel_rfl) ?hqr2_1_2 (Or.inl ⟨by kernel_rfl, ?hyr2_1_2⟩) (by assumption) ?restr2_1_2
                case hqr2_1_2 => exact fun _ _ _ h => h
                case hyr2_1_2 => (intro w hSw; (try dsimp only at hSw); go_simp; try with_reducible rfl)
                try simp only [Act.put, List.getElem_toArray, List.getElem_cons_succ, List.getElem_cons_zero, List.setIfInBounds_toArray, List.set_cons_zero, List.set_cons_succ]
                refine wpAnyH_take (i := 3) (oi := _) (v := ?vr2_1_3) rfl (by kernel_rfl) (by kernel_rfl) (by kernel_rfl) ?hqr2_1_3 (Or.inl ⟨by kernel_rfl, ?hyr2_1_3⟩) (by assumption) ?restr2_1_3
                case hqr2_1_3 => exact fun _ _ _ h => h
                case hyr2_1_3 => (intro w hSw; (try dsimp only at hSw); go_simp; try with_reducible rfl)
                try simp only [Act.put, List.getElem_toArray, List.getElem_cons_succ, List.getElem_cons_zero, List.setIfInBounds_toArray, List.set_cons_zero, List.set_cons_succ]
                refine wpAnyH_take (i := 4) (oi := _) (v := ?vr2_1_4) rfl (by kernel_rfl) (by kernel_rfl) (by kernel_rfl) ?hqr2_1_4 (Or.inl ⟨by kernel_rfl, ?hyr2_1_4⟩) (by assumption) ?restr2_1_4
                case hqr2_1_4 => exact fun _ _ _ h => h
                case hyr2_1_4 => (intro w hSw; (try dsimp only at hSw); go_simp; try with_reducible rfl)
                try simp only [Act.put, List.getElem_toArray, List.getElem_cons_succ, List.getElem_cons_zero, List.setIfInBounds_toArray, List.set_cons_zero, List.set_cons_succ]
                refine wpAnyH_take (i := 5) (oi := _) (v := ?vr2_1_5) rfl (by kernel_rfl) (by kernel_rfl) (by kernel_rfl) ?hqr2_1_5 (Or.inl ⟨by kernel_rfl, ?hyr2_1_5⟩) (by assumption) ?restr2_1_5
                case hqr2_1_5 => exact fun _ _ _ h => h
                case hyr2_1_5 => (intro w hSw; (try dsimp only at hSw); go_simp; try with_reducible rfl)
                try simp only [Act.put, List.getElem_toArray, List.getElem_cons_succ, List.getElem_cons_zero, List.setIfInBounds_toArray, List.set_cons_zero, List.set_cons_succ]
                refine wpAnyH_take (i := 6) (oi := _) (v := ?vr2_1_6) rfl (by kernel_rfl) (by kernel_rfl) (by kernel_rfl) ?hqr2_1_6 (Or.inl ⟨by kernel_rfl, ?hyr2_1_6⟩) (by assumption) ?restr2_1_6
                case hqr2_1_6 => exact fun _ _ _ h => h
                case hyr2_1_6 => (intro w hSw; (try dsimp only at hSw); go_simp; try with_reducible rfl)
                try simp only [Act.put, List.getElem_toArray, List.getElem_cons_succ, List.getElem_cons_zero, List.setIfInBounds_toArray, List.set_cons_zero, List.set_cons_succ]
                refine wpAnyH_ready (rs := [7]) (by kernel_rfl) (by simp) ?_
                refine AllReadyH.cons (o := _) rfl (fun K hK => ?_) AllReadyH.nil
                go_simp
                (go_at_call 59; refine (HLE.out _).mono ?_; rintro e w6 ⟨rfl, hb6⟩; have hB6 : Bel w5 w6 := Bel.then_ (Bel.refl w5).drew.drew hb6)
                try (go_wp2_with fail)
                refine hK.out _ _ ?_ (fun hHr2_1 => ?_)
                · (try dsimp only); (first | assumption | exact hS _ (Bel.refl w5).drew.drew | exact hS _ hB6)
                clear hK K hHr2_0
                try simp only [Act.put, List.getElem_toArray, List.getElem_cons_succ, List.getElem_cons_zero, List.setIfInBounds_toArray, List.set_cons_zero, List.set_cons_succ]
                refine wpAnyH_take (i := 8) (oi := _) (v := ?vr2_1_8) rfl (by kernel_rfl) (by kernel_rfl) (by kernel_rfl) ?hqr2_1_8 (Or.inl ⟨by kernel_rfl, ?hyr2_1_8⟩) (by assumption) ?restr2_1_8
                case hqr2_1_8 => exact fun _ _ _ h => h
                case hyr2_1_8 => (intro w hSw; (try dsimp only at hSw); go_simp; try with_reducible rfl)
                try simp only [Act.put, List.getElem_toArray, List.getElem_cons_succ, List.getElem_cons_zero, List.setIfInBounds_toArray, List.set_cons_zero, List.set_cons_succ]
                refine wpAnyH_take (i := 9) (oi := _) (v := ?vr2_1_9) rfl (by kernel_rfl) (by kernel_rfl) (by kernel_rfl) ?hqr2_1_9 (Or.inl ⟨by kernel_rfl, ?hyr2_1_9⟩) (by assumption) ?restr2_1_9
                case hqr2_1_9 => exact fun _ _ _ h => h
                case hyr2_1_9 => (intro w hSw; (try dsimp only at hSw); go_simp; try with_reducible rfl)
                try simp only [Act.put, List.getElem_toArray, List.getElem_cons_succ, List.getElem_cons_zero, List.setIfInBounds_toArray, List.set_cons_zero, List.set_cons_succ]
                refine wpAnyH_take (i := 10) (oi := _) (v := ?vr2_1_10) rfl (by kernel_rfl) (by kernel_rfl) (by kernel_rfl) ?hqr2_1_10 (Or.inl ⟨by kernel_rfl, ?hyr2_1_10⟩) (by assumption) ?restr2_1_10
                case hqr2_1_10 => exact fun _ _ _ h => h
                case hyr2_1_10 => (intro w hSw; (try dsimp only at hSw); go_simp; try with_reducible rfl)
                try simp only [Act.put, List.getElem_toArray, List.getElem_cons_succ, List.getElem_cons_zero, List.setIfInBounds_toArray, List.set_cons_zero, List.set_cons_succ]
                refine wpAnyH_done (by kernel_rfl) ?_ _
                refine NoPanic.normal ?_
                go_wp2
                go_ret
                exact ⟨by rw [hR2]; rfl, hB5.then_ hB6⟩
              · have hlb : decide (255 < u) = false := by simp; omega
                have hR2 : R = 0 := by rw [HR1.out, if_pos (by omega)]
                refine wp_region_noPanic ?_
                refine wp_region_held_drew (S := (fun V : World => V.cell? ⟨w.heap.size, 2, none⟩ = some (.int .i64 1) ∧ V.cell? ⟨w.heap.size + 1, 2, none⟩ = some (.int .u64 u) ∧ Bel w5 V)) (by kernel_rfl) ?_ (fun hHr3_0 => ?_)
                · (try dsimp only); (first | assumption | exact hS _ (Bel.refl w5).drew.drew | exact hS _ hB6)
                refine wpAnyH_take (i := 0) (oi := _) (v := ?vr3_1_0) rfl (by kernel_rfl) (by kernel_rfl) (by kernel_rfl) ?hqr3_1_0 (Or.inl ⟨by kernel_rfl, ?hyr3_1_0⟩) (by assumption) ?restr3_1_0
                case hqr3_1_0 => exact fun _ _ _ h => h
                case hyr3_1_0 => (intro w hSw; (try dsimp only at hSw); go_simp; try with_reducible rfl)
                try simp only [Act.put, List.getElem_toArray, List.getElem_cons_succ, List.getElem_cons_zero, List.setIfInBounds_toArray, List.set_cons_zero, List.set_cons_succ]
                refine wpAnyH_take (i := 1) (oi := _) (v := ?vr3_1_1) rfl (by kernel_rfl) (by kernel_rfl) (by kernel_rfl) ?hqr3_1_1 (Or.inl ⟨by kernel_rfl, ?hyr3_1_1⟩) (by assumption) ?restr3_1_1
                case hqr3_1_1 => exact fun _ _ _ h => h
                case hyr3_1_1 => (intro w hSw; (try dsimp only at hSw); go_simp; try with_reducible rfl)
                try simp only [Act.put, List.getElem_toArray, List.getElem_cons_succ, List.getElem_cons_zero, List.setIfInBounds_toArray, List.set_cons_zero, List.set_cons_succ]
                refine wpAnyH_take (i := 2) (oi := _) (v := ?vr3_1_2) rfl (by kernel_rfl) (by kernel_rfl) (by kernel_rfl) ?hqr3_1_2 (Or.inl ⟨by kernel_rfl, ?hyr3_1_2⟩) (by assumption) ?restr3_1_2
                case hqr3_1_2 => exact fun _ _ _ h => h
                case hyr3_1_2 => (intro w hSw; (try dsimp only at hSw); go_simp; try with_reducible rfl)
                try simp only [Act.put, List.getElem_toArray, List.getElem_cons_succ, List.getElem_cons_zero, List.setIfInBounds_toArray, List.set_cons_zero, List.set_cons_succ]
                refine wpAnyH_take (i := 3) (oi := _) (v := ?vr3_1_3) rfl (by kernel_rfl) (by kernel_rfl) (by kernel_rfl) ?hqr3_1_3 (Or.inl ⟨by kernel_rfl, ?hyr3_1_3⟩) (by assumption) ?restr3_1_3
                case hqr3_1_3 => exact fun _ _ _ h => h
                case hyr3_1_3 => (intro w hSw; (try dsimp only at hSw); go_simp; try with_reducible rfl)
                try simp only [Act.put, List.getElem_toArray, List.getElem_cons_succ, List.getElem_cons_zero, List.setIfInBounds_toArray, List.set_cons_zero, List.set_cons_succ]
                refine wpAnyH_take (i := 4) (oi := _) (v := ?vr3_1_4) rfl (by kernel_rfl) (by kernel_rfl) (by kernel_rfl) ?hqr3_1_4 (Or.inl ⟨by kernel_rfl, ?hyr3_1_4⟩) (by assumption) ?restr3_1_4
                case hqr3_1_4 => exact fun _ _ _ h => h
                case hyr3_1_4 => (intro w hSw; (try dsimp only at hSw); go_simp; try with_reducible rfl)
                try simp only [Act.put, List.getElem_toArray, List.getElem_cons_succ, List.getElem_cons_zero, List.setIfInBounds_toArray, List.set_cons_zero, List.set_cons_succ]
                refine wpAnyH_take (i := 5) (oi := _) (v := ?vr3_1_5) rfl (by kernel_rfl) (by kernel_rfl) (by kernel_rfl) ?hqr3_1_5 (Or.inl ⟨by kernel_rfl, ?hyr3_1_5⟩) (by assumption) ?restr3_1_5
                case hqr3_1_5 => exact fun _ _ _ h => h
                case hyr3_1_5 => (intro w hSw; (try dsimp only at hSw); go_simp; try with_reducible rfl)
                try simp only [Act.put, List.getElem_toArray, List.getElem_cons_succ, List.getElem_cons_zero, List.setIfInBounds_toArray, List.set_cons_zero, List.set_cons_succ]
                refine wpAnyH_take (i := 6) (oi := _) (v := ?vr3_1_6) rfl (by kernel_rfl) (by kernel_rfl) (by kernel_rfl) ?hqr3_1_6 (Or.inl ⟨by kernel_rfl, ?hyr3_1_6⟩) (by assumption) ?restr3_1_6
                case hqr3_1_6 => exact fun _ _ _ h => h
                case hyr3_1_6 => (intro w hSw; (try dsimp only at hSw); go_simp; try with_reducible rfl)
                try simp only [Act.put, List.getElem_toArray, List.getElem_cons_succ, List.getElem_cons_zero, List.setIfInBounds_toArray, List.set_cons_zero, List.set_cons_succ]
                refine wpAnyH_ready (rs := [7]) (by kernel_rfl) (by simp) ?_
                refine AllReadyH.cons (o := _) rfl (fun K hK => ?_) AllReadyH.nil
                go_simp
                (go_at_call 59; refine (HLE.out _).mono ?_; rintro e w6 ⟨rfl, hb6⟩; have hB6 : Bel w5 w6 := Bel.then_ (Bel.refl w5).drew.drew hb6)
                try (go_wp2_with fail)
                refine hK.out _ _ ?_ (fun hHr3_1 => ?_)
                · (try dsimp only); (first | assumption | exact hS _ (Bel.refl w5).drew.drew | exact hS _ hB6)
                clear hK K hHr3_0
                try simp only [Act.put, List.getElem_toArray, List.getElem_cons_succ, List.getElem_cons_zero, List.setIfInBounds_toArray, List.set_cons_zero, List.set_cons_succ]
                refine wpAnyH_take (i := 8) (oi := _) (v := ?vr3_1_8) rfl (by kernel_rfl) (by kernel_rfl) (by kernel_rfl) ?hqr3_1_8 (Or.inl ⟨by kernel_rfl, ?hyr3_1_8⟩) (by assumption) ?restr3_1_8
                case hqr3_1_8 => exact fun _ _ _ h => h
                case hyr3_1_8 => (intro w hSw; (try dsimp only at hSw); go_simp; try with_reducible rfl)
                try simp only [Act.put, List.getElem_toArray, List.getElem_cons_succ, List.getElem_cons_zero, List.setIfInBounds_toArray, List.set_cons_zero, List.set_cons_succ]
                refine wpAnyH_take (i := 9) (oi := _) (v := ?vr3_1_9) rfl (by kernel_rfl) (by kernel_rfl) (by kernel_rfl) ?hqr3_1_9 (Or.inl ⟨by kernel_rfl, ?hyr3_1_9⟩) (by assumption) ?restr3_1_9
                case hqr3_1_9 => exact fun _ _ _ h => h
                case hyr3_1_9 => (intro w hSw; (try dsimp only at hSw); go_simp; try with_reducible rfl)
                try simp only [Act.put, List.getElem_toArray, List.getElem_cons_succ, List.getElem_cons_zero, List.setIfInBounds_toArray, List.set_cons_zero, List.set_cons_succ]
                refine wpAnyH_take (i := 10) (oi := _) (v := ?vr3_1_10) rfl (by kernel_rfl) (by kernel_rfl) (by kernel_rfl) ?hqr3_1_10 (Or.inl ⟨by kernel_rfl, ?hyr3_1_10⟩) (by assumption) ?restr3_1_10
                case hqr3_1_10 => exact fun _ _ _ h => h
                case hyr3_1_10 => (intro w hSw; (try dsimp only at hSw); go_simp; try with_reducible rfl)
                try simp only [Act.put, List.getElem_toArray, List.getElem_cons_succ, List.getElem_cons_zero, List.setIfInBounds_toArray, List.set_cons_zero, List.set_cons_succ]
                refine wpAnyH_done (by kernel_rfl) ?_ _
                refine NoPanic.normal ?_
                go_wp2
                go_ret
                exact ⟨by rw [hR2]; rfl, hB5.then_ hB6⟩
            · simp only [mostI] at HLE HR1
              go_enter Tryz.func24, Tryz.ntmps24
              go_wp2_with (first | (go_at_call 56; refine (HCO.out _).mono ?_; rintro e w4 ⟨rfl, hb4⟩; obtain ⟨⟨a0, a1, a2, a3, c0, c1, c2, c3⟩, hB4⟩ := HCL.out _ hb4) | (go_at_call 57; refine (HCH.out _).mono ?_; rintro e w5 ⟨rfl, hb5⟩; obtain ⟨⟨d0, d1, d2, d3, e0, e1, e2, e3⟩, hB5⟩ := HCL.out _ (hb4.then_ hb5)))
              refine wp_region_noPanic ?_
              refine wp_region_held_drew (S := (fun V : World => Bel w5 V)) (by kernel_rfl) ?_ (fun hHr4_0 => ?_)
              · (try dsimp only); (first | assumption | exact (Bel.refl w5).drew)
              refine wpAnyH_take (i := 0) (oi := _) (v := ?vr4_1_0) rfl (by kernel_rfl) (by kernel_rfl) (by kernel_rfl) ?hqr4_1_0 (Or.inl ⟨by kernel_rfl, ?hyr4_1_0⟩) (by assumption) ?restr4_1_0
              case hqr4_1_0 => exact fun _ _ _ h => h
              case hyr4_1_0 => (intro w hSw; (try dsimp only at hSw); go_simp; try with_reducible rfl)
              try simp only [Act.put, List.getElem_toArray, List.getElem_cons_succ, List.getElem_cons_zero, List.setIfInBounds_toArray, List.set_cons_zero, List.set_cons_succ]
              refine wpAnyH_take (i := 1) (oi := _) (v := ?vr4_1_1) rfl (by kernel_rfl) (by kernel_rfl) (by kernel_rfl) ?hqr4_1_1 (Or.inl ⟨by kernel_rfl, ?hyr4_1_1⟩) (by assumption) ?restr4_1_1
              case hqr4_1_1 => exact fun _ _ _ h => h
              case hyr4_1_1 => (intro w hSw; (try dsimp only at hSw); go_simp; try with_reducible rfl)
              try simp only [Act.put, List.getElem_toArray, List.getElem_cons_succ, List.getElem_cons_zero, List.setIfInBounds_toArray, List.set_cons_zero, List.set_cons_succ]
              refine wpAnyH_take (i := 2) (oi := _) (v := ?vr4_1_2) rfl (by kernel_rfl) (by kernel_rfl) (by kernel_rfl) ?hqr4_1_2 (Or.inl ⟨by kernel_rfl, ?hyr4_1_2⟩) (by assumption) ?restr4_1_2
              case hqr4_1_2 => exact fun _ _ _ h => h
              case hyr4_1_2 => (intro w hSw; (try dsimp only at hSw); go_simp; try with_reducible rfl)
              try simp only [Act.put, List.getElem_toArray, List.getElem_cons_succ, List.getElem_cons_zero, List.setIfInBounds_toArray, List.set_cons_zero, List.set_cons_succ]
              refine wpAnyH_take (i := 3) (oi := _) (v := undef) rfl (by kernel_rfl) (by kernel_rfl) (by kernel_rfl) (fun _ _ _ h => h) (Or.inr ⟨by kernel_rfl, rfl⟩) (by assumption) ?restr4_1_3
              try simp only [Act.put, List.getElem_toArray, List.getElem_cons_succ, List.getElem_cons_zero, List.setIfInBounds_toArray, List.set_cons_zero, List.set_cons_succ]
              refine wpAnyH_take (i := 4) (oi := _) (v := undef) rfl (by kernel_rfl) (by kernel_rfl) (by kernel_rfl) (fun _ _ _ h => h) (Or.inr ⟨by kernel_rfl, rfl⟩) (by assumption) ?restr4_1_4
              try simp only [Act.put, List.getElem_toArray, List.getElem_cons_succ, List.getElem_cons_zero, List.setIfInBounds_toArray, List.set_cons_zero, List.set_cons_succ]
              refine wpAnyH_take (i := 5) (oi := _) (v := undef) rfl (by kernel_rfl) (by kernel_rfl) (by kernel_rfl) (fun _ _ _ h => h) (Or.inr ⟨by kernel_rfl, rfl⟩) (by assumption) ?restr4_1_5
              try simp only [Act.put, List.getElem_toArray, List.getElem_cons_succ, List.getElem_cons_zero, List.setIfInBounds_toArray, List.set_cons_zero, List.set_cons_succ]
              refine wpAnyH_take (i := 6) (oi := _) (v := undef) rfl (by kernel_rfl) (by kernel_rfl) (by kernel_rfl) (fun _ _ _ h => h) (Or.inr ⟨by kernel_rfl, rfl⟩) (by assumption) ?restr4_1_6
              try simp only [Act.put, List.getElem_toArray, List.getElem_cons_succ, List.getElem_cons_zero, List.setIfInBounds_toArray, List.set_cons_zero, List.set_cons_succ]
              refine wpAnyH_take (i := 7) (oi := _) (v := undef) rfl (by kernel_rfl) (by kernel_rfl) (by kernel_rfl) (fun _ _ _ h => h) (Or.inr ⟨by kernel_rfl, rfl⟩) (by assumption) ?restr4_1_7
              try simp only [Act.put, List.getElem_toArray, List.getElem_cons_succ, List.getElem_cons_zero, List.setIfInBounds_toArray, List.set_cons_zero, List.set_cons_succ]
              refine wpAnyH_take (i := 8) (oi := _) (v := undef) rfl (by kernel_rfl) (by kernel_rfl) (by kernel_rfl) (fun _ _ _ h => h) (Or.inr ⟨by kernel_rfl, rfl⟩) (by assumption) ?restr4_1_8
              try simp only [Act.put, List.getElem_toArray, List.getElem_cons_succ, List.getElem_cons_zero, List.setIfInBounds_toArray, List.set_cons_zero, List.set_cons_succ]
              refine wpAnyH_take (i := 9) (oi := _) (v := undef) rfl (by kernel_rfl) (by kernel_rfl) (by kernel_rfl) (fun _ _ _ h => h) (Or.inr ⟨by kernel_rfl, rfl⟩) (by assumption) ?restr4_1_9
              try simp only [Act.put, List.getElem_toArray, List.getElem_cons_succ, List.getElem_cons_zero, List.setIfInBounds_toArray, List.set_cons_zero, List.set_cons_succ]
              refine wpAnyH_take (i := 10) (oi := _) (v := undef) rfl (by kernel_rfl) (by kernel_rfl) (by kernel_rfl) (fun _ _ _ h => h) (Or.inr ⟨by kernel_rfl, rfl⟩) (by assumption) ?restr4_1_10
              try simp only [Act.put, List.getElem_toArray, List.getElem_cons_succ, List.getElem_cons_zero, List.setIfInBounds_toArray, List.set_cons_zero, List.set_cons_succ]
              refine wpAnyH_take (i := 11) (oi := _) (v := undef) rfl (by kernel_rfl) (by kernel_rfl) (by kernel_rfl) (fun _ _ _ h => h) (Or.inr ⟨by kernel_rfl, rfl⟩) (by assumption) ?restr4_1_11
              try simp only [Act.put, List.getElem_toArray, List.getElem_cons_succ, List.getElem_cons_zero, List.setIfInBounds_toArray, List.set_cons_zero, List.set_cons_succ]
              refine wpAnyH_take (i := 12) (oi := _) (v := undef) rfl (by kernel_rfl) (by kernel_rfl) (by kernel_rfl) (fun _ _ _ h => h) (Or.inr ⟨by kernel_rfl, rfl⟩) (by assumption) ?restr4_1_12
              try simp only [Act.put, List.getElem_toArray, List.getElem_cons_succ, List.getElem_cons_zero, List.setIfInBounds_toArray, List.set_cons_zero, List.set_cons_succ]
              refine wpAnyH_take (i := 13) (oi := _) (v := undef) rfl (by kernel_rfl) (by kernel_rfl) (by kernel_rfl) (fun _ _ _ h => h) (Or.inr ⟨by kernel_rfl, rfl⟩) (by assumption) ?restr4_1_13
              try simp only [Act.put, List.getElem_toArray, List.getElem_cons_succ, List.getElem_cons_zero, List.setIfInBounds_toArray, List.set_cons_zero, List.set_cons_succ]
              refine wpAnyH_take (i := 14) (oi := _) (v := undef) rfl (by kernel_rfl) (by kernel_rfl) (by kernel_rfl) (fun _ _ _ h => h) (Or.inr ⟨by kernel_rfl, rfl⟩) (by assumption) ?restr4_1_14
              try simp only [Act.put, List.getElem_toArray, List.getElem_cons_succ, List.getElem_cons_zero, List.setIfInBounds_toArray, List.set_cons_zero, List.set_cons_succ]
              refine wpAnyH_take (i := 15) (oi := _) (v := undef) rfl (by kernel_rfl) (by kernel_rfl) (by kernel_rfl) (fun _ _ _ h => h) (Or.inr ⟨by kernel_rfl, rfl⟩) (by assumption) ?restr4_1_15
              try simp only [Act.put, List.getElem_toArray, List.getElem_cons_succ, List.getElem_cons_zero, List.setIfInBounds_toArray, List.set_cons_zero, List.set_cons_succ]
              refine wpAnyH_take (i := 16) (oi := _) (v := undef) rfl (by kernel_rfl) (by kernel_rfl) (by kernel_rfl) (fun _ _ _ h => h) (Or.inr ⟨by kernel_rfl, rfl⟩) (by assumption) ?restr4_1_16
              try simp only [Act.put, List.getElem_toArray, List.getElem_cons_succ, List.getElem_cons_zero, List.setIfInBounds_toArray, List.set_cons_zero, List.set_cons_succ]
              refine wpAnyH_take (i := 17) (oi := _) (v := undef) rfl (by kernel_rfl) (by kernel_rfl) (by kernel_rfl) (fun _ _ _ h => h) (Or.inr ⟨by kernel_rfl, rfl⟩) (by assumption) ?restr4_1_17
              try simp only [Act.put, List.getElem_toArray, List.getElem_cons_succ, List.getElem_cons_zero, List.setIfInBounds_toArray, List.set_cons_zero, List.set_cons_succ]
              refine wpAnyH_take (i := 18) (oi := _) (v := undef) rfl (by kernel_rfl) (by kernel_rfl) (by kernel_rfl) (fun _ _ _ h => h) (Or.inr ⟨by kernel_rfl, rfl⟩) (by assumption) ?restr4_1_18
              try simp only [Act.put, List.getElem_toArray, List.getElem_cons_succ, List.getElem_cons_zero, List.setIfInBounds_toArray, List.set_cons_zero, List.set_cons_succ]
              refine wpAnyH_take (i := 19) (oi := _) (v := ?vr4_1_19) rfl (by kernel_rfl) (by kernel_rfl) (by kernel_rfl) ?hqr4_1_19 (Or.inl ⟨by kernel_rfl, ?hyr4_1_19⟩) (by assumption) ?restr4_1_19
              case hqr4_1_19 => exact fun _ _ _ h => h
              case hyr4_1_19 => (intro w hSw; (try dsimp only at hSw); go_simp; try with_reducible rfl)
              try simp only [Act.put, List.getElem_toArray, List.getElem_cons_succ, List.getElem_cons_zero, List.setIfInBounds_toArray, List.set_cons_zero, List.set_cons_succ]
              refine wpAnyH_take (i := 20) (oi := _) (v := ?vr4_1_20) rfl (by kernel_rfl) (by kernel_rfl) (by kernel_rfl) ?hqr4_1_20 (Or.inl ⟨by kernel_rfl, ?hyr4_1_20⟩) (by assumption) ?restr4_1_20
              case hqr4_1_20 => exact fun _ _ _ h => h
              case hyr4_1_20 => (intro w hSw; (try dsimp only at hSw); go_simp; try with_reducible rfl)
              try simp only [Act.put, List.getElem_toArray, List.getElem_cons_succ, List.getElem_cons_zero, List.setIfInBounds_toArray, List.set_cons_zero, List.set_cons_succ]
              refine wpAnyH_done (by kernel_rfl) ?_ _
              refine NoPanic.normal ?_
              go_wp2
              have hS : ∀ V, Bel w5 V → (V.cell? ⟨w.heap.size, 2, none⟩ = some (.int .i64 2) ∧ V.cell? ⟨w.heap.size + 1, 2, none⟩ = some (.int .u64 u) ∧ Bel w5 V) := fun V h => ⟨h.c d2, h.c e2, h⟩
              by_cases hl : 65535 < u
              · have hR2 : R = 133 := by rw [HR1.out, if_neg (by omega)]
                refine wp_region_noPanic ?_
                refine wp_region_held_drew (S := (fun V : World => V.cell? ⟨w.heap.size, 2, none⟩ = some (.int .i64 2) ∧ V.cell? ⟨w.heap.size + 1, 2, none⟩ = some (.int .u64 u) ∧ Bel w5 V)) (by kernel_rfl) ?_ (fun hHr5_0 => ?_)
                · (try dsimp only); (first | assumption | exact hS _ (Bel.refl w5).drew.drew | exact hS _ hB6)
                refine wpAnyH_take (i := 0) (oi := _) (v := ?vr5_1_0) rfl (by kernel_rfl) (by kernel_rfl) (by kernel_rfl) ?hqr5_1_0 (Or.inl ⟨by kernel_rfl, ?hyr5_1_0⟩) (by assumption) ?restr5_1_0
                case hqr5_1_0 => exact fun _ _ _ h => h
                case hyr5_1_0 => (intro w hSw; (try dsimp only at hSw); go_simp; try with_reducible rfl)
                try simp only [Act.put, List.getElem_toArray, List.getElem_cons_succ, List.getElem_cons_zero, List.setIfInBounds_toArray, List.set_cons_zero, List.set_cons_succ]
                refine wpAnyH_take (i := 1) (oi := _) (v := ?vr5_1_1) rfl (by kernel_rfl) (by kernel_rfl) (by kernel_rfl) ?hqr5_1_1 (Or.inl ⟨by kernel_rfl, ?hyr5_1_1⟩) (by assumption) ?restr5_1_1
                case hqr5_1_1 => exact fun _ _ _ h => h
                case hyr5_1_1 => (intro w hSw; (try dsimp only at hSw); go_simp; try with_reducible rfl)
                try simp only [Act.put, List.getElem_toArray, List.getElem_cons_succ, List.getElem_cons_zero, List.setIfInBounds_toArray, List.set_cons_zero, List.set_cons_succ]
                refine wpAnyH_take (i := 2) (oi := _) (v := ?vr5_1_2) rfl (by kernel_rfl) (by kernel_rfl) (by kernel_rfl) ?hqr5_1_2 (Or.inl ⟨by kernel_rfl, ?hyr5_1_2⟩) (by assumption) ?restr5_1_2
                case hqr5_1_2 => exact fun _ _ _ h => h
                case hyr5_1_2 => (intro w hSw; (try dsimp only at hSw); go_simp; try with_reducible rfl)
                try simp only [Act.put, List.getElem_toArray, List.getElem_cons_succ, List.getElem_cons_zero, List.setIfInBounds_toArray, List.set_cons_zero, List.set_cons_succ]
                refine wpAnyH_take (i := 3) (oi := _) (v := ?vr5_1_3) rfl (by kernel_rfl) (by kernel_rfl) (by kernel_rfl) ?hqr5_1_3 (Or.inl ⟨by kernel_rfl, ?hyr5_1_3⟩) (by assumption) ?restr5_1_3
                case hqr5_1_3 => exact fun _ _ _ h => h
                case hyr5_1_3 => (intro w hSw; (try dsimp only at hSw); go_simp; try with_reducible rfl)
                try simp only [Act.put, List.getElem_toArray, List.getElem_cons_succ, List.getElem_cons_zero, List.setIfInBounds_toArray, List.set_cons_zero, List.set_cons_succ]
                refine wpAnyH_take (i := 4) (oi := _) (v := ?vr5_1_4) rfl (by kernel_rfl) (by kernel_rfl) (by kernel_rfl) ?hqr5_1_4 (Or.inl ⟨by kernel_rfl, ?hyr5_1_4⟩) (by assumption) ?restr5_1_4
                case hqr5_1_4 => exact fun _ _ _ h => h
                case hyr5_1_4 => (intro w hSw; (try dsimp only at hSw); go_simp; try with_reducible rfl)
                try simp only [Act.put, List.getElem_toArray, List.getElem_cons_succ, List.getElem_cons_zero, List.setIfInBounds_toArray, List.set_cons_zero, List.set_cons_succ]
                refine wpAnyH_take (i := 5) (oi := _) (v := ?vr5_1_5) rfl (by kernel_rfl) (by kernel_rfl) (by kernel_rfl) ?hqr5_1_5 (Or.inl ⟨by kernel_rfl, ?hyr5_1_5⟩) (by assumption) ?restr5_1_5
                case hqr5_1_5 => exact fun _ _ _ h => h
                case hyr5_1_5 => (intro w hSw; (try dsimp only at hSw); go_simp; try with_reducible rfl)
                try simp only [Act.put, List.getElem_toArray, List.getElem_cons_succ, List.getElem_cons_zero, List.setIfInBounds_toArray, List.set_cons_zero, List.set_cons_succ]
                refine wpAnyH_take (i := 6) (oi := _) (v := ?vr5_1_6) rfl (by kernel_rfl) (by kernel_rfl) (by kernel_rfl) ?hqr5_1_6 (Or.inl ⟨by kernel_rfl, ?hyr5_1_6⟩) (by assumption) ?restr5_1_6
                case hqr5_1_6 => exact fun _ _ _ h => h
                case hyr5_1_6 => (intro w hSw; (try dsimp only at hSw); go_simp; try with_reducible rfl)
                try simp only [Act.put, List.getElem_toArray, List.getElem_cons_succ, List.getElem_cons_zero, List.setIfInBounds_toArray, List.set_cons_zero, List.set_cons_succ]
                refine wpAnyH_ready (rs := [7]) (by kernel_rfl) (by simp) ?_
                refine AllReadyH.cons (o := _) rfl (fun K hK => ?_) AllReadyH.nil
                go_simp
                (go_at_call 59; refine (HLE.out _).mono ?_; rintro e w6 ⟨rfl, hb6⟩; have hB6 : Bel w5 w6 := Bel.then_ (Bel.refl w5).drew.drew hb6)
                try (go_wp2_with fail)
                refine hK.out _ _ ?_ (fun hHr5_1 => ?_)
                · (try dsimp only); (first | assumption | exact hS _ (Bel.refl w5).drew.drew | exact hS _ hB6)
                clear hK K hHr5_0
                try simp only [Act.put, List.getElem_toArray, List.getElem_cons_succ, List.getElem_cons_zero, List.setIfInBounds_toArray, List.set_cons_zero, List.set_cons_succ]
                refine wpAnyH_take (i := 8) (oi := _) (v := ?vr5_1_8) rfl (by kernel_rfl) (by kernel_rfl) (by kernel_rfl) ?hqr5_1_8 (Or.inl ⟨by kernel_rfl, ?hyr5_1_8⟩) (by assumption) ?restr5_1_8
                case hqr5_1_8 => exact fun _ _ _ h => h
                case hyr5_1_8 => (intro w hSw; (try dsimp only at hSw); go_simp; try with_reducible rfl)
                try simp only [Act.put, List.getElem_toArray, List.getElem_cons_succ, List.getElem_cons_zero, List.setIfInBounds_toArray, List.set_cons_zero, List.set_cons_succ]
                refine wpAnyH_take (i := 9) (oi := _) (v := ?vr5_1_9) rfl (by kernel_rfl) (by kernel_rfl) (by kernel_rfl) ?hqr5_1_9 (Or.inl ⟨by kernel_rfl, ?hyr5_1_9⟩) (by assumption) ?restr5_1_9
                case hqr5_1_9 => exact fun _ _ _ h => h
                case hyr5_1_9 => (intro w hSw; (try dsimp only at hSw); go_simp; try with_reducible rfl)
                try simp only [Act.put, List.getElem_toArray, List.getElem_cons_succ, List.getElem_cons_zero, List.setIfInBounds_toArray, List.set_cons_zero, List.set_cons_succ]
                refine wpAnyH_take (i := 10) (oi := _) (v := ?vr5_1_10) rfl (by kernel_rfl) (by kernel_rfl) (by kernel_rfl) ?hqr5_1_10 (Or.inl ⟨by kernel_rfl, ?hyr5_1_10⟩) (by assumption) ?restr5_1_10
                case hqr5_1_10 => exact fun _ _ _ h => h
                case hyr5_1_10 => (intro w hSw; (try dsimp only at hSw); go_simp; try with_reducible rfl)
                try simp only [Act.put, List.getElem_toArray, List.getElem_cons_succ, List.getElem_cons_zero, List.setIfInBounds_toArray, List.set_cons_zero, List.set_cons_succ]
                refine wpAnyH_done (by kernel_rfl) ?_ _
                refine NoPanic.normal ?_
                go_wp2
                go_ret
                exact ⟨by rw [hR2]; rfl, hB5.then_ hB6⟩
              · have hlb : decide (65535 < u) = false := by simp; omega
                have hR2 : R = 0 := by rw [HR1.out, if_pos (by omega)]
                refine wp_region_noPanic ?_
                refine wp_region_held_drew (S := (fun V : World => V.cell? ⟨w.heap.size, 2, none⟩ = some (.int .i64 2) ∧ V.cell? ⟨w.heap.size + 1, 2, none⟩ = some (.int .u64 u) ∧ Bel w5 V)) (by kernel_rfl) ?_ (fun hHr6_0 => ?_)
                · (try dsimp only); (first | assumption | exact hS _ (Bel.refl w5).drew.drew | exact hS _ hB6)
                refine wpAnyH_take (i := 0) (oi := _) (v := ?vr6_1_0) rfl (by kernel_rfl) (by kernel_rfl) (by kernel_rfl) ?hqr6_1_0 (Or.inl ⟨by kernel_rfl, ?hyr6_1_0⟩) (by assumption) ?restr6_1_0
                case hqr6_1_0 => exact fun _ _ _ h => h
                case hyr6_1_0 => (intro w hSw; (try dsimp only at hSw); go_simp; try with_reducible rfl)
                try simp only [Act.put, List.getElem_toArray, List.getElem_cons_succ, List.getElem_cons_zero, List.setIfInBounds_toArray, List.set_cons_zero, List.set_cons_succ]
                refine wpAnyH_take (i := 1) (oi := _) (v := ?vr6_1_1) rfl (by kernel_rfl) (by kernel_rfl) (by kernel_rfl) ?hqr6_1_1 (Or.inl ⟨by kernel_rfl, ?hyr6_1_1⟩) (by assumption) ?restr6_1_1
                case hqr6_1_1 => exact fun _ _ _ h => h
                case hyr6_1_1 => (intro w hSw; (try dsimp only at hSw); go_simp; try with_reducible rfl)
                try simp only [Act.put, List.getElem_toArray, List.getElem_cons_succ, List.getElem_cons_zero, List.setIfInBounds_toArray, List.set_cons_zero, List.set_cons_succ]
                refine wpAnyH_take (i := 2) (oi := _) (v := ?vr6_1_2) rfl (by kernel_rfl) (by kernel_rfl) (by kernel_rfl) ?hqr6_1_2 (Or.inl ⟨by kernel_rfl, ?hyr6_1_2⟩) (by assumption) ?restr6_1_2
                case hqr6_1_2 => exact fun _ _ _ h => h
                case hyr6_1_2 => (intro w hSw; (try dsimp only at hSw); go_simp; try with_reducible rfl)
                try simp only [Act.put, List.getElem_toArray, List.getElem_cons_succ, List.getElem_cons_zero, List.setIfInBounds_toArray, List.set_cons_zero, List.set_cons_succ]
                refine wpAnyH_take (i := 3) (oi := _) (v := ?vr6_1_3) rfl (by kernel_rfl) (by kernel_rfl) (by kernel_rfl) ?hqr6_1_3 (Or.inl ⟨by kernel_rfl, ?hyr6_1_3⟩) (by assumption) ?restr6_1_3
                case hqr6_1_3 => exact fun _ _ _ h => h
                case hyr6_1_3 => (intro w hSw; (try dsimp only at hSw); go_simp; try with_reducible rfl)
                try simp only [Act.put, List.getElem_toArray, List.getElem_cons_succ, List.getElem_cons_zero, List.setIfInBounds_toArray, List.set_cons_zero, List.set_cons_succ]
                refine wpAnyH_take (i := 4) (oi := _) (v := ?vr6_1_4) rfl (by kernel_rfl) (by kernel_rfl) (by kernel_rfl) ?hqr6_1_4 (Or.inl ⟨by kernel_rfl, ?hyr6_1_4⟩) (by assumption) ?restr6_1_4
                case hqr6_1_4 => exact fun _ _ _ h => h
                case hyr6_1_4 => (intro w hSw; (try dsimp only at hSw); go_simp; try with_reducible rfl)
                try simp only [Act.put, List.getElem_toArray, List.getElem_cons_succ, List.getElem_cons_zero, List.setIfInBounds_toArray, List.set_cons_zero, List.set_cons_succ]
                refine wpAnyH_take (i := 5) (oi := _) (v := ?vr6_1_5) rfl (by kernel_rfl) (by kernel_rfl) (by kernel_rfl) ?hqr6_1_5 (Or.inl ⟨by kernel_rfl, ?hyr6_1_5⟩) (by assumption) ?restr6_1_5
                case hqr6_1_5 => exact fun _ _ _ h => h
                case hyr6_1_5 => (intro w hSw; (try dsimp only at hSw); go_simp; try with_reducible rfl)
                try simp only [Act.put, List.getElem_toArray, List.getElem_cons_succ, List.getElem_cons_zero, List.setIfInBounds_toArray, List.set_cons_zero, List.set_cons_succ]
                refine wpAnyH_take (i := 6) (oi := _) (v := ?vr6_1_6) rfl (by kernel_rfl) (by kernel_rfl) (by kernel_rfl) ?hqr6_1_6 (Or.inl ⟨by kernel_rfl, ?hyr6_1_6⟩) (by assumption) ?restr6_1_6
                case hqr6_1_6 => exact fun _ _ _ h => h
                case hyr6_1_6 => (intro w hSw; (try dsimp only at hSw); go_simp; try with_reducible rfl)
                try simp only [Act.put, List.getElem_toArray, List.getElem_cons_succ, List.getElem_cons_zero, List.setIfInBounds_toArray, List.set_cons_zero, List.set_cons_succ]
                refine wpAnyH_ready (rs := [7]) (by kernel_rfl) (by simp) ?_
                refine AllReadyH.cons (o := _) rfl (fun K hK => ?_) AllReadyH.nil
                go_simp
                (go_at_call 59; refine (HLE.out _).mono ?_; rintro e w6 ⟨rfl, hb6⟩; have hB6 : Bel w5 w6 := Bel.then_ (Bel.refl w5).drew.drew hb6)
                try (go_wp2_with fail)
                refine hK.out _ _ ?_ (fun hHr6_1 => ?_)
                · (try dsimp only); (first | assumption | exact hS _ (Bel.refl w5).drew.drew | exact hS _ hB6)
                clear hK K hHr6_0
                try simp only [Act.put, List.getElem_toArray, List.getElem_cons_succ, List.getElem_cons_zero, List.setIfInBounds_toArray, List.set_cons_zero, List.set_cons_succ]
                refine wpAnyH_take (i := 8) (oi := _) (v := ?vr6_1_8) rfl (by kernel_rfl) (by kernel_rfl) (by kernel_rfl) ?hqr6_1_8 (Or.inl ⟨by kernel_rfl, ?hyr6_1_8⟩) (by assumption) ?restr6_1_8
                case hqr6_1_8 => exact fun _ _ _ h => h
                case hyr6_1_8 => (intro w hSw; (try dsimp only at hSw); go_simp; try with_reducible rfl)
                try simp only [Act.put, List.getElem_toArray, List.getElem_cons_succ, List.getElem_cons_zero, List.setIfInBounds_toArray, List.set_cons_zero, List.set_cons_succ]
                refine wpAnyH_take (i := 9) (oi := _) (v := ?vr6_1_9) rfl (by kernel_rfl) (by kernel_rfl) (by kernel_rfl) ?hqr6_1_9 (Or.inl ⟨by kernel_rfl, ?hyr6_1_9⟩) (by assumption) ?restr6_1_9
                case hqr6_1_9 => exact fun _ _ _ h => h
                case hyr6_1_9 => (intro w hSw; (try dsimp only at hSw); go_simp; try with_reducible rfl)
                try simp only [Act.put, List.getElem_toArray, List.getElem_cons_succ, List.getElem_cons_zero, List.setIfInBounds_toArray, List.set_cons_zero, List.set_cons_succ]
                refine wpAnyH_take (i := 10) (oi := _) (v := ?vr6_1_10) rfl (by kernel_rfl) (by kernel_rfl) (by kernel_rfl) ?hqr6_1_10 (Or.inl ⟨by kernel_rfl, ?hyr6_1_10⟩) (by assumption) ?restr6_1_10
                case hqr6_1_10 => exact fun _ _ _ h => h
                case hyr6_1_10 => (intro w hSw; (try dsimp only at hSw); go_simp; try with_reducible rfl)
                try simp only [Act.put, List.getElem_toArray, List.getElem_cons_succ, List.getElem_cons_zero, List.setIfInBounds_toArray, List.set_cons_zero, List.set_cons_succ]
                refine wpAnyH_done (by kernel_rfl) ?_ _
                refine NoPanic.normal ?_
                go_wp2
                go_ret
                exact ⟨by rw [hR2]; rfl, hB5.then_ hB6⟩
            · simp only [mostI] at HLE HR1
              go_enter Tryz.func24, Tryz.ntmps24
              go_wp2_with (first | (go_at_call 56; refine (HCO.out _).mono ?_; rintro e w4 ⟨rfl, hb4⟩; obtain ⟨⟨a0, a1, a2, a3, c0, c1, c2, c3⟩, hB4⟩ := HCL.out _ hb4) | (go_at_call 57; refine (HCH.out _).mono ?_; rintro e w5 ⟨rfl, hb5⟩; obtain ⟨⟨d0, d1, d2, d3, e0, e1, e2, e3⟩, hB5⟩ := HCL.out _ (hb4.then_ hb5)))
              refine wp_region_noPanic ?_
              refine wp_region_held_drew (S := (fun V : World => Bel w5 V)) (by kernel_rfl) ?_ (fun hHr7_0 => ?_)
              · (try dsimp only); (first | assumption | exact (Bel.refl w5).drew)
              refine wpAnyH_take (i := 0) (oi := _) (v := ?vr7_1_0) rfl (by kernel_rfl) (by kernel_rfl) (by kernel_rfl) ?hqr7_1_0 (Or.inl ⟨by kernel_rfl, ?hyr7_1_0⟩) (by assumption) ?restr7_1_0
              case hqr7_1_0 => exact fun _ _ _ h => h
              case hyr7_1_0 => (intro w hSw; (try dsimp only at hSw); go_simp; try with_reducible rfl)
              try simp only [Act.put, List.getElem_toArray, List.getElem_cons_succ, List.getElem_cons_zero, List.setIfInBounds_toArray, List.set_cons_zero, List.set_cons_succ]
              refine wpAnyH_take (i := 1) (oi := _) (v := ?vr7_1_1) rfl (by kernel_rfl) (by kernel_rfl) (by kernel_rfl) ?hqr7_1_1 (Or.inl ⟨by kernel_rfl, ?hyr7_1_1⟩) (by assumption) ?restr7_1_1
              case hqr7_1_1 => exact fun _ _ _ h => h
              case hyr7_1_1 => (intro w hSw; (try dsimp only at hSw); go_simp; try with_reducible rfl)
              try simp only [Act.put, List.getElem_toArray, List.getElem_cons_succ, List.getElem_cons_zero, List.setIfInBounds_toArray, List.set_cons_zero, List.set_cons_succ]
              refine wpAnyH_take (i := 2) (oi := _) (v := ?vr7_1_2) rfl (by kernel_rfl) (by kernel_rfl) (by kernel_rfl) ?hqr7_1_2 (Or.inl ⟨by kernel_rfl, ?hyr7_1_2⟩) (by assumption) ?restr7_1_2
              case hqr7_1_2 => exact fun _ _ _ h => h
              case hyr7_1_2 => (intro w hSw; (try dsimp only at hSw); go_simp; try with_reducible rfl)
              try simp only [Act.put, List.getElem_toArray, List.getElem_cons_succ, List.getElem_cons_zero, List.setIfInBounds_toArray, List.set_cons_zero, List.set_cons_succ]
              refine wpAnyH_take (i := 3) (oi := _) (v := undef) rfl (by kernel_rfl) (by kernel_rfl) (by kernel_rfl) (fun _ _ _ h => h) (Or.inr ⟨by kernel_rfl, rfl⟩) (by assumption) ?restr7_1_3
              try simp only [Act.put, List.getElem_toArray, List.getElem_cons_succ, List.getElem_cons_zero, List.setIfInBounds_toArray, List.set_cons_zero, List.set_cons_succ]
              refine wpAnyH_take (i := 4) (oi := _) (v := undef) rfl (by kernel_rfl) (by kernel_rfl) (by kernel_rfl) (fun _ _ _ h => h) (Or.inr ⟨by kernel_rfl, rfl⟩) (by assumption) ?restr7_1_4
              try simp only [Act.put, List.getElem_toArray, List.getElem_cons_succ, List.getElem_cons_zero, List.setIfInBounds_toArray, List.set_cons_zero, List.set_cons_succ]
              refine wpAnyH_take (i := 5) (oi := _) (v := undef) rfl (by kernel_rfl) (by kernel_rfl) (by kernel_rfl) (fun _ _ _ h => h) (Or.inr ⟨by kernel_rfl, rfl⟩) (by assumption) ?restr7_1_5
              try simp only [Act.put, List.getElem_toArray, List.getElem_cons_succ, List.getElem_cons_zero, List.setIfInBounds_toArray, List.set_cons_zero, List.set_cons_succ]
              refine wpAnyH_take (i := 6) (oi := _) (v := undef) rfl (by kernel_rfl) (by kernel_rfl) (by kernel_rfl) (fun _ _ _ h => h) (Or.inr ⟨by kernel_rfl, rfl⟩) (by assumption) ?restr7_1_6
              try simp only [Act.put, List.getElem_toArray, List.getElem_cons_succ, List.getElem_cons_zero, List.setIfInBounds_toArray, List.set_cons_zero, List.set_cons_succ]
              refine wpAnyH_take (i := 7) (oi := _) (v := undef) rfl (by kernel_rfl) (by kernel_rfl) (by kernel_rfl) (fun _ _ _ h => h) (Or.inr ⟨by kernel_rfl, rfl⟩) (by assumption) ?restr7_1_7
              try simp only [Act.put, List.getElem_toArray, List.getElem_cons_succ, List.getElem_cons_zero, List.setIfInBounds_toArray, List.set_cons_zero, List.set_cons_succ]
              refine wpAnyH_take (i := 8) (oi := _) (v := undef) rfl (by kernel_rfl) (by kernel_rfl) (by kernel_rfl) (fun _ _ _ h => h) (Or.inr ⟨by kernel_rfl, rfl⟩) (by assumption) ?restr7_1_8
              try simp only [Act.put, List.getElem_toArray, List.getElem_cons_succ, List.getElem_cons_zero, List.setIfInBounds_toArray, List.set_cons_zero, List.set_cons_succ]
              refine wpAnyH_take (i := 9) (oi := _) (v := undef) rfl (by kernel_rfl) (by kernel_rfl) (by kernel_rfl) (fun _ _ _ h => h) (Or.inr ⟨by kernel_rfl, rfl⟩) (by assumption) ?restr7_1_9
              try simp only [Act.put, List.getElem_toArray, List.getElem_cons_succ, List.getElem_cons_zero, List.setIfInBounds_toArray, List.set_cons_zero, List.set_cons_succ]
              refine wpAnyH_take (i := 10) (oi := _) (v := undef) rfl (by kernel_rfl) (by kernel_rfl) (by kernel_rfl) (fun _ _ _ h => h) (Or.inr ⟨by kernel_rfl, rfl⟩) (by assumption) ?restr7_1_10
              try simp only [Act.put, List.getElem_toArray, List.getElem_cons_succ, List.getElem_cons_zero, List.setIfInBounds_toArray, List.set_cons_zero, List.set_cons_succ]
              refine wpAnyH_take (i := 11) (oi := _) (v := undef) rfl (by kernel_rfl) (by kernel_rfl) (by kernel_rfl) (fun _ _ _ h => h) (Or.inr ⟨by kernel_rfl, rfl⟩) (by assumption) ?restr7_1_11
              try simp only [Act.put, List.getElem_toArray, List.getElem_cons_succ, List.getElem_cons_zero, List.setIfInBounds_toArray, List.set_cons_zero, List.set_cons_succ]
              refine wpAnyH_take (i := 12) (oi := _) (v := undef) rfl (by kernel_rfl) (by kernel_rfl) (by kernel_rfl) (fun _ _ _ h => h) (Or.inr ⟨by kernel_rfl, rfl⟩) (by assumption) ?restr7_1_12
              try simp only [Act.put, List.getElem_toArray, List.getElem_cons_succ, List.getElem_cons_zero, List.setIfInBounds_toArray, List.set_cons_zero, List.set_cons_succ]
              refine wpAnyH_take (i := 13) (oi := _) (v := undef) rfl (by kernel_rfl) (by kernel_rfl) (by kernel_rfl) (fun _ _ _ h => h) (Or.inr ⟨by kernel_rfl, rfl⟩) (by assumption) ?restr7_1_13
              try simp only [Act.put, List.getElem_toArray, List.getElem_cons_succ, List.getElem_cons_zero, List.setIfInBounds_toArray, List.set_cons_zero, List.set_cons_succ]
              refine wpAnyH_take (i := 14) (oi := _) (v := undef) rfl (by kernel_rfl) (by kernel_rfl) (by kernel_rfl) (fun _ _ _ h => h) (Or.inr ⟨by kernel_rfl, rfl⟩) (by assumption) ?restr7_1_14
              try simp only [Act.put, List.getElem_toArray, List.getElem_cons_succ, List.getElem_cons_zero, List.setIfInBounds_toArray, List.set_cons_zero, List.set_cons_succ]
              refine wpAnyH_take (i := 15) (oi := _) (v := undef) rfl (by kernel_rfl) (by kernel_rfl) (by kernel_rfl) (fun _ _ _ h => h) (Or.inr ⟨by kernel_rfl, rfl⟩) (by assumption) ?restr7_1_15
              try simp only [Act.put, List.getElem_toArray, List.getElem_cons_succ, List.getElem_cons_zero, List.setIfInBounds_toArray, List.set_cons_zero, List.set_cons_succ]
              refine wpAnyH_take (i := 16) (oi := _) (v := undef) rfl (by kernel_rfl) (by kernel_rfl) (by kernel_rfl) (fun _ _ _ h => h) (Or.inr ⟨by kernel_rfl, rfl⟩) (by assumption) ?restr7_1_16
              try simp only [Act.put, List.getElem_toArray, List.getElem_cons_succ, List.getElem_cons_zero, List.setIfInBounds_toArray, List.set_cons_zero, List.set_cons_succ]
              refine wpAnyH_take (i := 17) (oi := _) (v := undef) rfl (by kernel_rfl) (by kernel_rfl) (by kernel_rfl) (fun _ _ _ h => h) (Or.inr ⟨by kernel_rfl, rfl⟩) (by assumption) ?restr7_1_17
              try simp only [Act.put, List.getElem_toArray, List.getElem_cons_succ, List.getElem_cons_zero, List.setIfInBounds_toArray, List.set_cons_zero, List.set_cons_succ]
              refine wpAnyH_take (i := 18) (oi := _) (v := undef) rfl (by kernel_rfl) (by kernel_rfl) (by kernel_rfl) (fun _ _ _ h => h) (Or.inr ⟨by kernel_rfl, rfl⟩) (by assumption) ?restr7_1_18
              try simp only [Act.put, List.getElem_toArray, List.getElem_cons_succ, List.getElem_cons_zero, List.setIfInBounds_toArray, List.set_cons_zero, List.set_cons_succ]
              refine wpAnyH_take (i := 19) (oi := _) (v := ?vr7_1_19) rfl (by kernel_rfl) (by kernel_rfl) (by kernel_rfl) ?hqr7_1_19 (Or.inl ⟨by kernel_rfl, ?hyr7_1_19⟩) (by assumption) ?restr7_1_19
              case hqr7_1_19 => exact fun _ _ _ h => h
              case hyr7_1_19 => (intro w hSw; (try dsimp only at hSw); go_simp; try with_reducible rfl)
              try simp only [Act.put, List.getElem_toArray, List.getElem_cons_succ, List.getElem_cons_zero, List.setIfInBounds_toArray, List.set_cons_zero, List.set_cons_succ]
              refine wpAnyH_take (i := 20) (oi := _) (v := ?vr7_1_20) rfl (by kernel_rfl) (by kernel_rfl) (by kernel_rfl) ?hqr7_1_20 (Or.inl ⟨by kernel_rfl, ?hyr7_1_20⟩) (by assumption) ?restr7_1_20
              case hqr7_1_20 => exact fun _ _ _ h => h
              case hyr7_1_20 => (intro w hSw; (try dsimp only at hSw); go_simp; try with_reducible rfl)
              try simp only [Act.put, List.getElem_toArray, List.getElem_cons_succ, List.getElem_cons_zero, List.setIfInBounds_toArray, List.set_cons_zero, List.set_cons_succ]
              refine wpAnyH_done (by kernel_rfl) ?_ _
              refine NoPanic.normal ?_
              go_wp2
              have hS : ∀ V, Bel w5 V → (V.cell? ⟨w.heap.size, 2, none⟩ = some (.int .i64 4) ∧ V.cell? ⟨w.heap.size + 1, 2, none⟩ = some (.int .u64 u) ∧ Bel w5 V) := fun V h => ⟨h.c d2, h.c e2, h⟩
              by_cases hl : 4294967295 < u
              · have hR2 : R = 133 := by rw [HR1.out, if_neg (by omega)]
                refine wp_region_noPanic ?_
                refine wp_region_held_drew (S := (fun V : World => V.cell? ⟨w.heap.size, 2, none⟩ = some (.int .i64 4) ∧ V.cell? ⟨w.heap.size + 1, 2, none⟩ = some (.int .u64 u) ∧ Bel w5 V)) (by kernel_rfl) ?_ (fun hHr8_0 => ?_)
                · (try dsimp only); (first | assumption | exact hS _ (Bel.refl w5).drew.drew | exact hS _ hB6)
                refine wpAnyH_take (i := 0) (oi := _) (v := ?vr8_1_0) rfl (by kernel_rfl) (by kernel_rfl) (by kernel_rfl) ?hqr8_1_0 (Or.inl ⟨by kernel_rfl, ?hyr8_1_0⟩) (by assumption) ?restr8_1_0
                case hqr8_1_0 => exact fun _ _ _ h => h
                case hyr8_1_0 => (intro w hSw; (try dsimp only at hSw); go_simp; try with_reducible rfl)
                try simp only [Act.put, List.getElem_toArray, List.getElem_cons_succ, List.getElem_cons_zero, List.setIfInBounds_toArray, List.set_cons_zero, List.set_cons_succ]
                refine wpAnyH_take (i := 1) (oi := _) (v := ?vr8_1_1) rfl (by kernel_rfl) (by kernel_rfl) (by kernel_rfl) ?hqr8_1_1 (Or.inl ⟨by kernel_rfl, ?hyr8_1_1⟩) (by assumption) ?restr8_1_1
                case hqr8_1_1 => exact fun _ _ _ h => h
                case hyr8_1_1 => (intro w hSw; (try dsimp only at hSw); go_simp; try with_reducible rfl)
                try simp only [Act.put, List.getElem_toArray, List.getElem_cons_succ, List.getElem_cons_zero, List.setIfInBounds_toArray, List.set_cons_zero, List.set_cons_succ]
                refine wpAnyH_take (i := 2) (oi := _) (v := ?vr8_1_2) rfl (by kernel_rfl) (by kernel_rfl) (by kernel_rfl) ?hqr8_1_2 (Or.inl ⟨by kernel_rfl, ?hyr8_1_2⟩) (by assumption) ?restr8_1_2
                case hqr8_1_2 => exact fun _ _ _ h => h
                case hyr8_1_2 => (intro w hSw; (try dsimp only at hSw); go_simp; try with_reducible rfl)
                try simp only [Act.put, List.getElem_toArray, List.getElem_cons_succ, List.getElem_cons_zero, List.setIfInBounds_toArray, List.set_cons_zero, List.set_cons_succ]
                refine wpAnyH_take (i := 3) (oi := _) (v := ?vr8_1_3) rfl (by kernel_rfl) (by kernel_rfl) (by kernel_rfl) ?hqr8_1_3 (Or.inl ⟨by kernel_rfl, ?hyr8_1_3⟩) (by assumption) ?restr8_1_3
                case hqr8_1_3 => exact fun _ _ _ h => h
                case hyr8_1_3 => (intro w hSw; (try dsimp only at hSw); go_simp; try with_reducible rfl)
                try simp only [Act.put, List.getElem_toArray, List.getElem_cons_succ, List.getElem_cons_zero, List.setIfInBounds_toArray, List.set_cons_zero, List.set_cons_succ]
                refine wpAnyH_take (i := 4) (oi := _) (v := ?vr8_1_4) rfl (by kernel_rfl) (by kernel_rfl) (by kernel_rfl) ?hqr8_1_4 (Or.inl ⟨by kernel_rfl, ?hyr8_1_4⟩) (by assumption) ?restr8_1_4
                case hqr8_1_4 => exact fun _ _ _ h => h
                case hyr8_1_4 => (intro w hSw; (try dsimp only at hSw); go_simp; try with_reducible rfl)
                try simp only [Act.put, List.getElem_toArray, List.getElem_cons_succ, List.getElem_cons_zero, List.setIfInBounds_toArray, List.set_cons_zero, List.set_cons_succ]
                refine wpAnyH_take (i := 5) (oi := _) (v := ?vr8_1_5) rfl (by kernel_rfl) (by kernel_rfl) (by kernel_rfl) ?hqr8_1_5 (Or.inl ⟨by kernel_rfl, ?hyr8_1_5⟩) (by assumption) ?restr8_1_5
                case hqr8_1_5 => exact fun _ _ _ h => h
                case hyr8_1_5 => (intro w hSw; (try dsimp only at hSw); go_simp; try with_reducible rfl)
                try simp only [Act.put, List.getElem_toArray, List.getElem_cons_succ, List.getElem_cons_zero, List.setIfInBounds_toArray, List.set_cons_zero, List.set_cons_succ]
                refine wpAnyH_take (i := 6) (oi := _) (v := ?vr8_1_6) rfl (by kernel_rfl) (by kernel_rfl) (by kernel_rfl) ?hqr8_1_6 (Or.inl ⟨by kernel_rfl, ?hyr8_1_6⟩) (by assumption) ?restr8_1_6
                case hqr8_1_6 => exact fun _ _ _ h => h
                case hyr8_1_6 => (intro w hSw; (try dsimp only at hSw); go_simp; try with_reducible rfl)
                try simp only [Act.put, List.getElem_toArray, List.getElem_cons_succ, List.getElem_cons_zero, List.setIfInBounds_toArray, List.set_cons_zero, List.set_cons_succ]
                refine wpAnyH_ready (rs := [7]) (by kernel_rfl) (by simp) ?_
                refine AllReadyH.cons (o := _) rfl (fun K hK => ?_) AllReadyH.nil
                go_simp
                (go_at_call 59; refine (HLE.out _).mono ?_; rintro e w6 ⟨rfl, hb6⟩; have hB6 : Bel w5 w6 := Bel.then_ (Bel.refl w5).drew.drew hb6)
                try (go_wp2_with fail)
                refine hK.out _ _ ?_ (fun hHr8_1 => ?_)
                · (try dsimp only); (first | assumption | exact hS _ (Bel.refl w5).drew.drew | exact hS _ hB6)
                clear hK K hHr8_0
                try simp only [Act.put, List.getElem_toArray, List.getElem_cons_succ, List.getElem_cons_zero, List.setIfInBounds_toArray, List.set_cons_zero, List.set_cons_succ]
                refine wpAnyH_take (i := 8) (oi := _) (v := ?vr8_1_8) rfl (by kernel_rfl) (by kernel_rfl) (by kernel_rfl) ?hqr8_1_8 (Or.inl ⟨by kernel_rfl, ?hyr8_1_8⟩) (by assumption) ?restr8_1_8
                case hqr8_1_8 => exact fun _ _ _ h => h
                case hyr8_1_8 => (intro w hSw; (try dsimp only at hSw); go_simp; try with_reducible rfl)
                try simp only [Act.put, List.getElem_toArray, List.getElem_cons_succ, List.getElem_cons_zero, List.setIfInBounds_toArray, List.set_cons_zero, List.set_cons_succ]
                refine wpAnyH_take (i := 9) (oi := _) (v := ?vr8_1_9) rfl (by kernel_rfl) (by kernel_rfl) (by kernel_rfl) ?hqr8_1_9 (Or.inl ⟨by kernel_rfl, ?hyr8_1_9⟩) (by assumption) ?restr8_1_9
                case hqr8_1_9 => exact fun _ _ _ h => h
                case hyr8_1_9 => (intro w hSw; (try dsimp only at hSw); go_simp; try with_reducible rfl)
                try simp only [Act.put, List.getElem_toArray, List.getElem_cons_succ, List.getElem_cons_zero, List.setIfInBounds_toArray, List.set_cons_zero, List.set_cons_succ]
                refine wpAnyH_take (i := 10) (oi := _) (v := ?vr8_1_10) rfl (by kernel_rfl) (by kernel_rfl) (by kernel_rfl) ?hqr8_1_10 (Or.inl ⟨by kernel_rfl, ?hyr8_1_10⟩) (by assumption) ?restr8_1_10
                case hqr8_1_10 => exact fun _ _ _ h => h
                case hyr8_1_10 => (intro w hSw; (try dsimp only at hSw); go_simp; try with_reducible rfl)
                try simp only [Act.put, List.getElem_toArray, List.getElem_cons_succ, List.getElem_cons_zero, List.setIfInBounds_toArray, List.set_cons_zero, List.set_cons_succ]
                refine wpAnyH_done (by kernel_rfl) ?_ _
                refine NoPanic.normal ?_
                go_wp2
                go_ret
                exact ⟨by rw [hR2]; rfl, hB5.then_ hB6⟩
              · have hlb : decide (4294967295 < u) = false := by simp; omega
                have hR2 : R = 0 := by rw [HR1.out, if_pos (by omega)]
                refine wp_region_noPanic ?_
                refine wp_region_held_drew (S := (fun V : World => V.cell? ⟨w.heap.size, 2, none⟩ = some (.int .i64 4) ∧ V.cell? ⟨w.heap.size + 1, 2, none⟩ = some (.int .u64 u) ∧ Bel w5 V)) (by kernel_rfl) ?_ (fun hHr9_0 => ?_)
                · (try dsimp only); (first | assumption | exact hS _ (Bel.refl w5).drew.drew | exact hS _ hB6)
                refine wpAnyH_take (i := 0) (oi := _) (v := ?vr9_1_0) rfl (by kernel_rfl) (by kernel_rfl) (by kernel_rfl) ?hqr9_1_0 (Or.inl ⟨by kernel_rfl, ?hyr9_1_0⟩) (by assumption) ?restr9_1_0
                case hqr9_1_0 => exact fun _ _ _ h => h
                case hyr9_1_0 => (intro w hSw; (try dsimp only at hSw); go_simp; try with_reducible rfl)
                try simp only [Act.put, List.getElem_toArray, List.getElem_cons_succ, List.getElem_cons_zero, List.setIfInBounds_toArray, List.set_cons_zero, List.set_cons_succ]
                refine wpAnyH_take (i := 1) (oi := _) (v := ?vr9_1_1) rfl (by kernel_rfl) (by kernel_rfl) (by kernel_rfl) ?hqr9_1_1 (Or.inl ⟨by kernel_rfl, ?hyr9_1_1⟩) (by assumption) ?restr9_1_1
                case hqr9_1_1 => exact fun _ _ _ h => h
                case hyr9_1_1 => (intro w hSw; (try dsimp only at hSw); go_simp; try with_reducible rfl)
                try simp only [Act.put, List.getElem_toArray, List.getElem_cons_succ, List.getElem_cons_zero, List.setIfInBounds_toArray, List.set_cons_zero, List.set_cons_succ]
                refine wpAnyH_take (i := 2) (oi := _) (v := ?vr9_1_2) rfl (by kernel_rfl) (by kernel_rfl) (by kernel_rfl) ?hqr9_1_2 (Or.inl ⟨by kernel_rfl, ?hyr9_1_2⟩) (by assumption) ?restr9_1_2
                case hqr9_1_2 => exact fun _ _ _ h => h
                case hyr9_1_2 => (intro w hSw; (try dsimp only at hSw); go_simp; try with_reducible rfl)
                try simp only [Act.put, List.getElem_toArray, List.getElem_cons_succ, List.getElem_cons_zero, List.setIfInBounds_toArray, List.set_cons_zero, List.set_cons_succ]
                refine wpAnyH_take (i := 3) (oi := _) (v := ?vr9_1_3) rfl (by kernel_rfl) (by kernel_rfl) (by kernel_rfl) ?hqr9_1_3 (Or.inl ⟨by kernel_rfl, ?hyr9_1_3⟩) (by assumption) ?restr9_1_3
                case hqr9_1_3 => exact fun _ _ _ h => h
                case hyr9_1_3 => (intro w hSw; (try dsimp only at hSw); go_simp; try with_reducible rfl)
                try simp only [Act.put, List.getElem_toArray, List.getElem_cons_succ, List.getElem_cons_zero, List.setIfInBounds_toArray, List.set_cons_zero, List.set_cons_succ]
                refine wpAnyH_take (i := 4) (oi := _) (v := ?vr9_1_4) rfl (by kernel_rfl) (by kernel_rfl) (by kernel_rfl) ?hqr9_1_4 (Or.inl ⟨by kernel_rfl, ?hyr9_1_4⟩) (by assumption) ?restr9_1_4
                case hqr9_1_4 => exact fun _ _ _ h => h
                case hyr9_1_4 => (intro w hSw; (try dsimp only at hSw); go_simp; try with_reducible rfl)
                try simp only [Act.put, List.getElem_toArray, List.getElem_cons_succ, List.getElem_cons_zero, List.setIfInBounds_toArray, List.set_cons_zero, List.set_cons_succ]
                refine wpAnyH_take (i := 5) (oi := _) (v := ?vr9_1_5) rfl (by kernel_rfl) (by kernel_rfl) (by kernel_rfl) ?hqr9_1_5 (Or.inl ⟨by kernel_rfl, ?hyr9_1_5⟩) (by assumption) ?restr9_1_5
                case hqr9_1_5 => exact fun _ _ _ h => h
                case hyr9_1_5 => (intro w hSw; (try dsimp only at hSw); go_simp; try with_reducible rfl)
                try simp only [Act.put, List.getElem_toArray, List.getElem_cons_succ, List.getElem_cons_zero, List.setIfInBounds_toArray, List.set_cons_zero, List.set_cons_succ]
                refine wpAnyH_take (i := 6) (oi := _) (v := ?vr9_1_6) rfl (by kernel_rfl) (by kernel_rfl) (by kernel_rfl) ?hqr9_1_6 (Or.inl ⟨by kernel_rfl, ?hyr9_1_6⟩) (by assumption) ?restr9_1_6
                case hqr9_1_6 => exact fun _ _ _ h => h
                case hyr9_1_6 => (intro w hSw; (try dsimp only at hSw); go_simp; try with_reducible rfl)
                try simp only [Act.put, List.getElem_toArray, List.getElem_cons_succ, List.getElem_cons_zero, List.setIfInBounds_toArray, List.set_cons_zero, List.set_cons_succ]
                refine wpAnyH_ready (rs := [7]) (by kernel_rfl) (by simp) ?_
                refine AllReadyH.cons (o := _) rfl (fun K hK => ?_) AllReadyH.nil
                go_simp
                (go_at_call 59; refine (HLE.out _).mono ?_; rintro e w6 ⟨rfl, hb6⟩; have hB6 : Bel w5 w6 := Bel.then_ (Bel.refl w5).drew.drew hb6)
                try (go_wp2_with fail)
                refine hK.out _ _ ?_ (fun hHr9_1 => ?_)
                · (try dsimp only); (first | assumption | exact hS _ (Bel.refl w5).drew.drew | exact hS _ hB6)
                clear hK K hHr9_0
                try simp only [Act.put, List.getElem_toArray, List.getElem_cons_succ, List.getElem_cons_zero, List.setIfInBounds_toArray, List.set_cons_zero, List.set_cons_succ]
                refine wpAnyH_take (i := 8) (oi := _) (v := ?vr9_1_8) rfl (by kernel_rfl) (by kernel_rfl) (by kernel_rfl) ?hqr9_1_8 (Or.inl ⟨by kernel_rfl, ?hyr9_1_8⟩) (by assumption) ?restr9_1_8
                case hqr9_1_8 => exact fun _ _ _ h => h
                case hyr9_1_8 => (intro w hSw; (try dsimp only at hSw); go_simp; try with_reducible rfl)
                try simp only [Act.put, List.getElem_toArray, List.getElem_cons_succ, List.getElem_cons_zero, List.setIfInBounds_toArray, List.set_cons_zero, List.set_cons_succ]
                refine wpAnyH_take (i := 9) (oi := _) (v := ?vr9_1_9) rfl (by kernel_rfl) (by kernel_rfl) (by kernel_rfl) ?hqr9_1_9 (Or.inl ⟨by kernel_rfl, ?hyr9_1_9⟩) (by assumption) ?restr9_1_9
                case hqr9_1_9 => exact fun _ _ _ h => h
                case hyr9_1_9 => (intro w hSw; (try dsimp only at hSw); go_simp; try with_reducible rfl)
                try simp only [Act.put, List.getElem_toArray, List.getElem_cons_succ, List.getElem_cons_zero, List.setIfInBounds_toArray, List.set_cons_zero, List.set_cons_succ]
                refine wpAnyH_take (i := 10) (oi := _) (v := ?vr9_1_10) rfl (by kernel_rfl) (by kernel_rfl) (by kernel_rfl) ?hqr9_1_10 (Or.inl ⟨by kernel_rfl, ?hyr9_1_10⟩) (by assumption) ?restr9_1_10
                case hqr9_1_10 => exact fun _ _ _ h => h
                case hyr9_1_10 => (intro w hSw; (try dsimp only at hSw); go_simp; try with_reducible rfl)
                try simp only [Act.put, List.getElem_toArray, List.getElem_cons_succ, List.getElem_cons_zero, List.setIfInBounds_toArray, List.set_cons_zero, List.set_cons_succ]
                refine wpAnyH_done (by kernel_rfl) ?_ _
                refine NoPanic.normal ?_
                go_wp2
                go_ret
                exact ⟨by rw [hR2]; rfl, hB5.then_ hB6⟩
            · simp only [mostI] at HLE HR1
              go_enter Tryz.func24, Tryz.ntmps24
              go_wp2_with (first | (go_at_call 56; refine (HCO.out _).mono ?_; rintro e w4 ⟨rfl, hb4⟩; obtain ⟨⟨a0, a1, a2, a3, c0, c1, c2, c3⟩, hB4⟩ := HCL.out _ hb4) | (go_at_call 57; refine (HCH.out _).mono ?_; rintro e w5 ⟨rfl, hb5⟩; obtain ⟨⟨d0, d1, d2, d3, e0, e1, e2, e3⟩, hB5⟩ := HCL.out _ (hb4.then_ hb5)))
              refine wp_region_noPanic ?_
              refine wp_region_held_drew (S := (fun V : World => Bel w5 V)) (by kernel_rfl) ?_ (fun hHr10_0 => ?_)
              · (try dsimp only); (first | assumption | exact (Bel.refl w5).drew)
              refine wpAnyH_take (i := 0) (oi := _) (v := ?vr10_1_0) rfl (by kernel_rfl) (by kernel_rfl) (by kernel_rfl) ?hqr10_1_0 (Or.inl ⟨by kernel_rfl, ?hyr10_1_0⟩) (by assumption) ?restr10_1_0
              case hqr10_1_0 => exact fun _ _ _ h => h
              case hyr10_1_0 => (intro w hSw; (try dsimp only at hSw); go_simp; try with_reducible rfl)
              try simp only [Act.put, List.getElem_toArray, List.getElem_cons_succ, List.getElem_cons_zero, List.setIfInBounds_toArray, List.set_cons_zero, List.set_cons_succ]
              refine wpAnyH_take (i := 1) (oi := _) (v := ?vr10_1_1) rfl (by kernel_rfl) (by kernel_rfl) (by kernel_rfl) ?hqr10_1_1 (Or.inl ⟨by kernel_rfl, ?hyr10_1_1⟩) (by assumption) ?restr10_1_1
              case hqr10_1_1 => exact fun _ _ _ h => h
              case hyr10_1_1 => (intro w hSw; (try dsimp only at hSw); go_simp; try with_reducible rfl)
              try simp only [Act.put, List.getElem_toArray, List.getElem_cons_succ, List.getElem_cons_zero, List.setIfInBounds_toArray, List.set_cons_zero, List.set_cons_succ]
              refine wpAnyH_take (i := 2) (oi := _) (v := ?vr10_1_2) rfl (by kernel_rfl) (by kernel_rfl) (by kernel_rfl) ?hqr10_1_2 (Or.inl ⟨by kernel_rfl, ?hyr10_1_2⟩) (by assumption) ?restr10_1_2
              case hqr10_1_2 => exact fun _ _ _ h => h
              case hyr10_1_2 => (intro w hSw; (try dsimp only at hSw); go_simp; try with_reducible rfl)
              try simp only [Act.put, List.getElem_toArray, List.getElem_cons_succ, List.getElem_cons_zero, List.setIfInBounds_toArray, List.set_cons_zero, List.set_cons_succ]
              refine wpAnyH_take (i := 3) (oi := _) (v := undef) rfl (by kernel_rfl) (by kernel_rfl) (by kernel_rfl) (fun _ _ _ h => h) (Or.inr ⟨by kernel_rfl, rfl⟩) (by assumption) ?restr10_1_3
              try simp only [Act.put, List.getElem_toArray, List.getElem_cons_succ, List.getElem_cons_zero, List.setIfInBounds_toArray, List.set_cons_zero, List.set_cons_succ]
              refine wpAnyH_take (i := 4) (oi := _) (v := undef) rfl (by kernel_rfl) (by kernel_rfl) (by kernel_rfl) (fun _ _ _ h => h) (Or.inr ⟨by kernel_rfl, rfl⟩) (by assumption) ?restr10_1_4
              try simp only [Act.put, List.getElem_toArray, List.getElem_cons_succ, List.getElem_cons_zero, List.setIfInBounds_toArray, List.set_cons_zero, List.set_cons_succ]
              refine wpAnyH_take (i := 5) (oi := _) (v := undef) rfl (by kernel_rfl) (by kernel_rfl) (by kernel_rfl) (fun _ _ _ h => h) (Or.inr ⟨by kernel_rfl, rfl⟩) (by assumption) ?restr10_1_5
              try simp only [Act.put, List.getElem_toArray, List.getElem_cons_succ, List.getElem_cons_zero, List.setIfInBounds_toArray, List.set_cons_zero, List.set_cons_succ]
              refine wpAnyH_take (i := 6) (oi := _) (v := undef) rfl (by kernel_rfl) (by kernel_rfl) (by kernel_rfl) (fun _ _ _ h => h) (Or.inr ⟨by kernel_rfl, rfl⟩) (by assumption) ?restr10_1_6
              try simp only [Act.put, List.getElem_toArray, List.getElem_cons_succ, List.getElem_cons_zero, List.setIfInBounds_toArray, List.set_cons_zero, List.set_cons_succ]
              refine wpAnyH_take (i := 7) (oi := _) (v := undef) rfl (by kernel_rfl) (by kernel_rfl) (by kernel_rfl) (fun _ _ _ h => h) (Or.inr ⟨by kernel_rfl, rfl⟩) (by assumption) ?restr10_1_7
              try simp only [Act.put, List.getElem_toArray, List.getElem_cons_succ, List.getElem_cons_zero, List.setIfInBounds_toArray, List.set_cons_zero, List.set_cons_succ]
              refine wpAnyH_take (i := 8) (oi := _) (v := undef) rfl (by kernel_rfl) (by kernel_rfl) (by kernel_rfl) (fun _ _ _ h => h) (Or.inr ⟨by kernel_rfl, rfl⟩) (by assumption) ?restr10_1_8
              try simp only [Act.put, List.getElem_toArray, List.getElem_cons_succ, List.getElem_cons_zero, List.setIfInBounds_toArray, List.set_cons_zero, List.set_cons_succ]
              refine wpAnyH_take (i := 9) (oi := _) (v := undef) rfl (by kernel_rfl) (by kernel_rfl) (by kernel_rfl) (fun _ _ _ h => h) (Or.inr ⟨by kernel_rfl, rfl⟩) (by assumption) ?restr10_1_9
              try simp only [Act.put, List.getElem_toArray, List.getElem_cons_succ, List.getElem_cons_zero, List.setIfInBounds_toArray, List.set_cons_zero, List.set_cons_succ]
              refine wpAnyH_take (i := 10) (oi := _) (v := undef) rfl (by kernel_rfl) (by kernel_rfl) (by kernel_rfl) (fun _ _ _ h => h) (Or.inr ⟨by kernel_rfl, rfl⟩) (by assumption) ?restr10_1_10
              try simp only [Act.put, List.getElem_toArray, List.getElem_cons_succ, List.getElem_cons_zero, List.setIfInBounds_toArray, List.set_cons_zero, List.set_cons_succ]
              refine wpAnyH_take (i := 11) (oi := _) (v := undef) rfl (by kernel_rfl) (by kernel_rfl) (by kernel_rfl) (fun _ _ _ h => h) (Or.inr ⟨by kernel_rfl, rfl⟩) (by assumption) ?restr10_1_11
              try simp only [Act.put, List.getElem_toArray, List.getElem_cons_succ, List.getElem_cons_zero, List.setIfInBounds_toArray, List.set_cons_zero, List.set_cons_succ]
              refine wpAnyH_take (i := 12) (oi := _) (v := undef) rfl (by kernel_rfl) (by kernel_rfl) (by kernel_rfl) (fun _ _ _ h => h) (Or.inr ⟨by kernel_rfl, rfl⟩) (by assumption) ?restr10_1_12
              try simp only [Act.put, List.getElem_toArray, List.getElem_cons_succ, List.getElem_cons_zero, List.setIfInBounds_toArray, List.set_cons_zero, List.set_cons_succ]
              refine wpAnyH_take (i := 13) (oi := _) (v := undef) rfl (by kernel_rfl) (by kernel_rfl) (by kernel_rfl) (fun _ _ _ h => h) (Or.inr ⟨by kernel_rfl, rfl⟩) (by assumption) ?restr10_1_13
              try simp only [Act.put, List.getElem_toArray, List.getElem_cons_succ, List.getElem_cons_zero, List.setIfInBounds_toArray, List.set_cons_zero, List.set_cons_succ]
              refine wpAnyH_take (i := 14) (oi := _) (v := undef) rfl (by kernel_rfl) (by kernel_rfl) (by kernel_rfl) (fun _ _ _ h => h) (Or.inr ⟨by kernel_rfl, rfl⟩) (by assumption) ?restr10_1_14
              try simp only [Act.put, List.getElem_toArray, List.getElem_cons_succ, List.getElem_cons_zero, List.setIfInBounds_toArray, List.set_cons_zero, List.set_cons_succ]
              refine wpAnyH_take (i := 15) (oi := _) (v := undef) rfl (by kernel_rfl) (by kernel_rfl) (by kernel_rfl) (fun _ _ _ h => h) (Or.inr ⟨by kernel_rfl, rfl⟩) (by assumption) ?restr10_1_15
              try simp only [Act.put, List.getElem_toArray, List.getElem_cons_succ, List.getElem_cons_zero, List.setIfInBounds_toArray, List.set_cons_zero, List.set_cons_succ]
              refine wpAnyH_take (i := 16) (oi := _) (v := undef) rfl (by kernel_rfl) (by kernel_rfl) (by kernel_rfl) (fun _ _ _ h => h) (Or.inr ⟨by kernel_rfl, rfl⟩) (by assumption) ?restr10_1_16
              try simp only [Act.put, List.getElem_toArray, List.getElem_cons_succ, List.getElem_cons_zero, List.setIfInBounds_toArray, List.set_cons_zero, List.set_cons_succ]
              refine wpAnyH_take (i := 17) (oi := _) (v := undef) rfl (by kernel_rfl) (by kernel_rfl) (by kernel_rfl) (fun _ _ _ h => h) (Or.inr ⟨by kernel_rfl, rfl⟩) (by assumption) ?restr10_1_17
              try simp only [Act.put, List.getElem_toArray, List.getElem_cons_succ, List.getElem_cons_zero, List.setIfInBounds_toArray, List.set_cons_zero, List.set_cons_succ]
              refine wpAnyH_take (i := 18) (oi := _) (v := undef) rfl (by kernel_rfl) (by kernel_rfl) (by kernel_rfl) (fun _ _ _ h => h) (Or.inr ⟨by kernel_rfl, rfl⟩) (by assumption) ?restr10_1_18
              try simp only [Act.put, List.getElem_toArray, List.getElem_cons_succ, List.getElem_cons_zero, List.setIfInBounds_toArray, List.set_cons_zero, List.set_cons_succ]
              refine wpAnyH_take (i := 19) (oi := _) (v := ?vr10_1_19) rfl (by kernel_rfl) (by kernel_rfl) (by kernel_rfl) ?hqr10_1_19 (Or.inl ⟨by kernel_rfl, ?hyr10_1_19⟩) (by assumption) ?restr10_1_19
              case hqr10_1_19 => exact fun _ _ _ h => h
              case hyr10_1_19 => (intro w hSw; (try dsimp only at hSw); go_simp; try with_reducible rfl)
              try simp only [Act.put, List.getElem_toArray, List.getElem_cons_succ, List.getElem_cons_zero, List.setIfInBounds_toArray, List.set_cons_zero, List.set_cons_succ]
              refine wpAnyH_take (i := 20) (oi := _) (v := ?vr10_1_20) rfl (by kernel_rfl) (by kernel_rfl) (by kernel_rfl) ?hqr10_1_20 (Or.inl ⟨by kernel_rfl, ?hyr10_1_20⟩) (by assumption) ?restr10_1_20
              case hqr10_1_20 => exact fun _ _ _ h => h
              case hyr10_1_20 => (intro w hSw; (try dsimp only at hSw); go_simp; try with_reducible rfl)
              try simp only [Act.put, List.getElem_toArray, List.getElem_cons_succ, List.getElem_cons_zero, List.setIfInBounds_toArray, List.set_cons_zero, List.set_cons_succ]
              refine wpAnyH_done (by kernel_rfl) ?_ _
              refine NoPanic.normal ?_
              go_wp2
              have hS : ∀ V, Bel w5 V → (V.cell? ⟨w.heap.size, 2, none⟩ = some (.int .i64 8) ∧ V.cell? ⟨w.heap.size + 1, 2, none⟩ = some (.int .u64 u) ∧ Bel w5 V) := fun V h => ⟨h.c d2, h.c e2, h⟩
              by_cases hl : 18446744073709551615 < u
              · have hR2 : R = 133 := by rw [HR1.out, if_neg (by omega)]
                refine wp_region_noPanic ?_
                refine wp_region_held_drew (S := (fun V : World => V.cell? ⟨w.heap.size, 2, none⟩ = some (.int .i64 8) ∧ V.cell? ⟨w.heap.size + 1, 2, none⟩ = some (.int .u64 u) ∧ Bel w5 V)) (by kernel_rfl) ?_ (fun hHr11_0 => ?_)
                · (try dsimp only); (first | assumption | exact hS _ (Bel.refl w5).drew.drew | exact hS _ hB6)
                refine wpAnyH_take (i := 0) (oi := _) (v := ?vr11_1_0) rfl (by kernel_rfl) (by kernel_rfl) (by kernel_rfl) ?hqr11_1_0 (Or.inl ⟨by kernel_rfl, ?hyr11_1_0⟩) (by assumption) ?restr11_1_0
                case hqr11_1_0 => exact fun _ _ _ h => h
                case hyr11_1_0 => (intro w hSw; (try dsimp only at hSw); go_simp; try with_reducible rfl)
                try simp only [Act.put, List.getElem_toArray, List.getElem_cons_succ, List.getElem_cons_zero, List.setIfInBounds_toArray, List.set_cons_zero, List.set_cons_succ]
                refine wpAnyH_take (i := 1) (oi := _) (v := ?vr11_1_1) rfl (by kernel_rfl) (by kernel_rfl) (by kernel_rfl) ?hqr11_1_1 (Or.inl ⟨by kernel_rfl, ?hyr11_1_1⟩) (by assumption) ?restr11_1_1
                case hqr11_1_1 => exact fun _ _ _ h => h
                case hyr11_1_1 => (intro w hSw; (try dsimp only at hSw); go_simp; try with_reducible rfl)
                try simp only [Act.put, List.getElem_toArray, List.getElem_cons_succ, List.getElem_cons_zero, List.setIfInBounds_toArray, List.set_cons_zero, List.set_cons_succ]
                refine wpAnyH_take (i := 2) (oi := _) (v := ?vr11_1_2) rfl (by kernel_rfl) (by kernel_rfl) (by kernel_rfl) ?hqr11_1_2 (Or.inl ⟨by kernel_rfl, ?hyr11_1_2⟩) (by assumption) ?restr11_1_2
                case hqr11_1_2 => exact fun _ _ _ h => h
                case hyr11_1_2 => (intro w hSw; (try dsimp only at hSw); go_simp; try with_reducible rfl)
                try simp only [Act.put, List.getElem_toArray, List.getElem_cons_succ, List.getElem_cons_zero, List.setIfInBounds_toArray, List.set_cons_zero, List.set_cons_succ]
                refine wpAnyH_take (i := 3) (oi := _) (v := ?vr11_1_3) rfl (by kernel_rfl) (by kernel_rfl) (by kernel_rfl) ?hqr11_1_3 (Or.inl ⟨by kernel_rfl, ?hyr11_1_3⟩) (by assumption) ?restr11_1_3
                case hqr11_1_3 => exact fun _ _ _ h => h
                case hyr11_1_3 => (intro w hSw; (try dsimp only at hSw); go_simp; try with_reducible rfl)
                try simp only [Act.put, List.getElem_toArray, List.getElem_cons_succ, List.getElem_cons_zero, List.setIfInBounds_toArray, List.set_cons_zero, List.set_cons_succ]
                refine wpAnyH_take (i := 4) (oi := _) (v := ?vr11_1_4) rfl (by kernel_rfl) (by kernel_rfl) (by kernel_rfl) ?hqr11_1_4 (Or.inl ⟨by kernel_rfl, ?hyr11_1_4⟩) (by assumption) ?restr11_1_4
                case hqr11_1_4 => exact fun _ _ _ h => h
                case hyr11_1_4 => (intro w hSw; (try dsimp only at hSw); go_simp; try with_reducible rfl)
                try simp only [Act.put, List.getElem_toArray, List.getElem_cons_succ, List.getElem_cons_zero, List.setIfInBounds_toArray, List.set_cons_zero, List.set_cons_succ]
                refine wpAnyH_take (i := 5) (oi := _) (v := ?vr11_1_5) rfl (by kernel_rfl) (by kernel_rfl) (by kernel_rfl) ?hqr11_1_5 (Or.inl ⟨by kernel_rfl, ?hyr11_1_5⟩) (by assumption) ?restr11_1_5
                case hqr11_1_5 => exact fun _ _ _ h => h
                case hyr11_1_5 => (intro w hSw; (try dsimp only at hSw); go_simp; try with_reducible rfl)
                try simp only [Act.put, List.getElem_toArray, List.getElem_cons_succ, List.getElem_cons_zero, List.setIfInBounds_toArray, List.set_cons_zero, List.set_cons_succ]
                refine wpAnyH_take (i := 6) (oi := _) (v := ?vr11_1_6) rfl (by kernel_rfl) (by kernel_rfl) (by kernel_rfl) ?hqr11_1_6 (Or.inl ⟨by kernel_rfl, ?hyr11_1_6⟩) (by assumption) ?restr11_1_6
                case hqr11_1_6 => exact fun _ _ _ h => h
                case hyr11_1_6 => (intro w hSw; (try dsimp only at hSw); go_simp; try with_reducible rfl)
                try simp only [Act.put, List.getElem_toArray, List.getElem_cons_succ, List.getElem_cons_zero, List.setIfInBounds_toArray, List.set_cons_zero, List.set_cons_succ]
                refine wpAnyH_ready (rs := [7]) (by kernel_rfl) (by simp) ?_
                refine AllReadyH.cons (o := _) rfl (fun K hK => ?_) AllReadyH.nil
                go_simp
                (go_at_call 59; refine (HLE.out _).mono ?_; rintro e w6 ⟨rfl, hb6⟩; have hB6 : Bel w5 w6 := Bel.then_ (Bel.refl w5).drew.drew hb6)
                try (go_wp2_with fail)
                refine hK.out _ _ ?_ (fun hHr11_1 => ?_)
                · (try dsimp only); (first | assumption | exact hS _ (Bel.refl w5).drew.drew | exact hS _ hB6)
                clear hK K hHr11_0
                try simp only [Act.put, List.getElem_toArray, List.getElem_cons_succ, List.getElem_cons_zero, List.setIfInBounds_toArray, List.set_cons_zero, List.set_cons_succ]
                refine wpAnyH_take (i := 8) (oi := _) (v := ?vr11_1_8) rfl (by kernel_rfl) (by kernel_rfl) (by kernel_rfl) ?hqr11_1_8 (Or.inl ⟨by kernel_rfl, ?hyr11_1_8⟩) (by assumption) ?restr11_1_8
                case hqr11_1_8 => exact fun _ _ _ h => h
                case hyr11_1_8 => (intro w hSw; (try dsimp only at hSw); go_simp; try with_reducible rfl)
                try simp only [Act.put, List.getElem_toArray, List.getElem_cons_succ, List.getElem_cons_zero, List.setIfInBounds_toArray, List.set_cons_zero, List.set_cons_succ]
                refine wpAnyH_take (i := 9) (oi := _) (v := ?vr11_1_9) rfl (by kernel_rfl) (by kernel_rfl) (by kernel_rfl) ?hqr11_1_9 (Or.inl ⟨by kernel_rfl, ?hyr11_1_9⟩) (by assumption) ?restr11_1_9
                case hqr11_1_9 => exact fun _ _ _ h => h
                case hyr11_1_9 => (intro w hSw; (try dsimp only at hSw); go_simp; try with_reducible rfl)
                try simp only [Act.put, List.getElem_toArray, List.getElem_cons_succ, List.getElem_cons_zero, List.setIfInBounds_toArray, List.set_cons_zero, List.set_cons_succ]
                refine wpAnyH_take (i := 10) (oi := _) (v := ?vr11_1_10) rfl (by kernel_rfl) (by kernel_rfl) (by kernel_rfl) ?hqr11_1_10 (Or.inl ⟨by kernel_rfl, ?hyr11_1_10⟩) (by assumption) ?restr11_1_10
                case hqr11_1_10 => exact fun _ _ _ h => h
                case hyr11_1_10 => (intro w hSw; (try dsimp only at hSw); go_simp; try with_reducible rfl)
                try simp only [Act.put, List.getElem_toArray, List.getElem_cons_succ, List.getElem_cons_zero, List.setIfInBounds_toArray, List.set_cons_zero, List.set_cons_succ]
                refine wpAnyH_done (by kernel_rfl) ?_ _
                refine NoPanic.normal ?_
                go_wp2
                go_ret
                exact ⟨by rw [hR2]; rfl, hB5.then_ hB6⟩
              · have hlb : decide (18446744073709551615 < u) = false := by simp; omega
                have hR2 : R = 0 := by rw [HR1.out, if_pos (by omega)]
                refine wp_region_noPanic ?_
                refine wp_region_held_drew (S := (fun V : World => V.cell? ⟨w.heap.size, 2, none⟩ = some (.int .i64 8) ∧ V.cell? ⟨w.heap.size + 1, 2, none⟩ = some (.int .u64 u) ∧ Bel w5 V)) (by kernel_rfl) ?_ (fun hHr12_0 => ?_)
                · (try dsimp only); (first | assumption | exact hS _ (Bel.refl w5).drew.drew | exact hS _ hB6)
                refine wpAnyH_take (i := 0) (oi := _) (v := ?vr12_1_0) rfl (by kernel_rfl) (by kernel_rfl) (by kernel_rfl) ?hqr12_1_0 (Or.inl ⟨by kernel_rfl, ?hyr12_1_0⟩) (by assumption) ?restr12_1_0
                case hqr12_1_0 => exact fun _ _ _ h => h
                case hyr12_1_0 => (intro w hSw; (try dsimp only at hSw); go_simp; try with_reducible rfl)
                try simp only [Act.put, List.getElem_toArray, List.getElem_cons_succ, List.getElem_cons_zero, List.setIfInBounds_toArray, List.set_cons_zero, List.set_cons_succ]
                refine wpAnyH_take (i := 1) (oi := _) (v := ?vr12_1_1) rfl (by kernel_rfl) (by kernel_rfl) (by kernel_rfl) ?hqr12_1_1 (Or.inl ⟨by kernel_rfl, ?hyr12_1_1⟩) (by assumption) ?restr12_1_1
                case hqr12_1_1 => exact fun _ _ _ h => h
                case hyr12_1_1 => (intro w hSw; (try dsimp only at hSw); go_simp; try with_reducible rfl)
                try simp only [Act.put, List.getElem_toArray, List.getElem_cons_succ, List.getElem_cons_zero, List.setIfInBounds_toArray, List.set_cons_zero, List.set_cons_succ]
                refine wpAnyH_take (i := 2) (oi := _) (v := ?vr12_1_2) rfl (by kernel_rfl) (by kernel_rfl) (by kernel_rfl) ?hqr12_1_2 (Or.inl ⟨by kernel_rfl, ?hyr12_1_2⟩) (by assumption) ?restr12_1_2
                case hqr12_1_2 => exact fun _ _ _ h => h
                case hyr12_1_2 => (intro w hSw; (try dsimp only at hSw); go_simp; try with_reducible rfl)
                try simp only [Act.put, List.getElem_toArray, List.getElem_cons_succ, List.getElem_cons_zero, List.setIfInBounds_toArray, List.set_cons_zero, List.set_cons_succ]
                refine wpAnyH_take (i := 3) (oi := _) (v := ?vr12_1_3) rfl (by kernel_rfl) (by kernel_rfl) (by kernel_rfl) ?hqr12_1_3 (Or.inl ⟨by kernel_rfl, ?hyr12_1_3⟩) (by assumption) ?restr12_1_3
                case hqr12_1_3 => exact fun _ _ _ h => h
                case hyr12_1_3 => (intro w hSw; (try dsimp only at hSw); go_simp; try with_reducible rfl)
                try simp only [Act.put, List.getElem_toArray, List.getElem_cons_succ, List.getElem_cons_zero, List.setIfInBounds_toArray, List.set_cons_zero, List.set_cons_succ]
                refine wpAnyH_take (i := 4) (oi := _) (v := ?vr12_1_4) rfl (by kernel_rfl) (by kernel_rfl) (by kernel_rfl) ?hqr12_1_4 (Or.inl ⟨by kernel_rfl, ?hyr12_1_4⟩) (by assumption) ?restr12_1_4
                case hqr12_1_4 => exact fun _ _ _ h => h
                case hyr12_1_4 => (intro w hSw; (try dsimp only at hSw); go_simp; try with_reducible rfl)
                try simp only [Act.put, List.getElem_toArray, List.getElem_cons_succ, List.getElem_cons_zero, List.setIfInBounds_toArray, List.set_cons_zero, List.set_cons_succ]
                refine wpAnyH_take (i := 5) (oi := _) (v := ?vr12_1_5) rfl (by kernel_rfl) (by kernel_rfl) (by kernel_rfl) ?hqr12_1_5 (Or.inl ⟨by kernel_rfl, ?hyr12_1_5⟩) (by assumption) ?restr12_1_5
                case hqr12_1_5 => exact fun _ _ _ h => h
                case hyr12_1_5 => (intro w hSw; (try dsimp only at hSw); go_simp; try with_reducible rfl)
                try simp only [Act.put, List.getElem_toArray, List.getElem_cons_succ, List.getElem_cons_zero, List.setIfInBounds_toArray, List.set_cons_zero, List.set_cons_succ]
                refine wpAnyH_take (i := 6) (oi := _) (v := ?vr12_1_6) rfl (by kernel_rfl) (by kernel_rfl) (by kernel_rfl) ?hqr12_1_6 (Or.inl ⟨by kernel_rfl, ?hyr12_1_6⟩) (by assumption) ?restr12_1_6
                case hqr12_1_6 => exact fun _ _ _ h => h
                case hyr12_1_6 => (intro w hSw; (try dsimp only at hSw); go_simp; try with_reducible rfl)
                try simp only [Act.put, List.getElem_toArray, List.getElem_cons_succ, List.getElem_cons_zero, List.setIfInBounds_toArray, List.set_cons_zero, List.set_cons_succ]
                refine wpAnyH_ready (rs := [7]) (by kernel_rfl) (by simp) ?_
                refine AllReadyH.cons (o := _) rfl (fun K hK => ?_) AllReadyH.nil
                go_simp
                (go_at_call 59; refine (HLE.out _).mono ?_; rintro e w6 ⟨rfl, hb6⟩; have hB6 : Bel w5 w6 := Bel.then_ (Bel.refl w5).drew.drew hb6)
                try (go_wp2_with fail)
                refine hK.out _ _ ?_ (fun hHr12_1 => ?_)
                · (try dsimp only); (first | assumption | exact hS _ (Bel.refl w5).drew.drew | exact hS _ hB6)
                clear hK K hHr12_0
                try simp only [Act.put, List.getElem_toArray, List.getElem_cons_succ, List.getElem_cons_zero, List.setIfInBounds_toArray, List.set_cons_zero, List.set_cons_succ]
                refine wpAnyH_take (i := 8) (oi := _) (v := ?vr12_1_8) rfl (by kernel_rfl) (by kernel_rfl) (by kernel_rfl) ?hqr12_1_8 (Or.inl ⟨by kernel_rfl, ?hyr12_1_8⟩) (by assumption) ?restr12_1_8
                case hqr12_1_8 => exact fun _ _ _ h => h
                case hyr12_1_8 => (intro w hSw; (try dsimp only at hSw); go_simp; try with_reducible rfl)
                try simp only [Act.put, List.getElem_toArray, List.getElem_cons_succ, List.getElem_cons_zero, List.setIfInBounds_toArray, List.set_cons_zero, List.set_cons_succ]
                refine wpAnyH_take (i := 9) (oi := _) (v := ?vr12_1_9) rfl (by kernel_rfl) (by kernel_rfl) (by kernel_rfl) ?hqr12_1_9 (Or.inl ⟨by kernel_rfl, ?hyr12_1_9⟩) (by assumption) ?restr12_1_9
                case hqr12_1_9 => exact fun _ _ _ h => h
                case hyr12_1_9 => (intro w hSw; (try dsimp only at hSw); go_simp; try with_reducible rfl)
                try simp only [Act.put, List.getElem_toArray, List.getElem_cons_succ, List.getElem_cons_zero, List.setIfInBounds_toArray, List.set_cons_zero, List.set_cons_succ]
                refine wpAnyH_take (i := 10) (oi := _) (v := ?vr12_1_10) rfl (by kernel_rfl) (by kernel_rfl) (by kernel_rfl) ?hqr12_1_10 (Or.inl ⟨by kernel_rfl, ?hyr12_1_10⟩) (by assumption) ?restr12_1_10
                case hqr12_1_10 => exact fun _ _ _ h => h
                case hyr12_1_10 => (intro w hSw; (try dsimp only at hSw); go_simp; try with_reducible rfl)
                try simp only [Act.put, List.getElem_toArray, List.getElem_cons_succ, List.getElem_cons_zero, List.setIfInBounds_toArray, List.set_cons_zero, List.set_cons_succ]
                refine wpAnyH_done (by kernel_rfl) ?_ _
                refine NoPanic.normal ?_
                go_wp2
                go_ret
                exact ⟨by rw [hR2]; rfl, hB5.then_ hB6⟩
          · have HR1 : Hid (R = 0) := by show _ = _; rw [hR1]; unfold fitB; simp
            clear hR1 HSZ
            go_enter Tryz.func24, Tryz.ntmps24
            go_wp2_with (first | (go_at_call 56; refine (HCO.out _).mono ?_; rintro e w4 ⟨rfl, hb4⟩; obtain ⟨⟨a0, a1, a2, a3, c0, c1, c2, c3⟩, hB4⟩ := HCL.out _ hb4) | (go_at_call 57; refine (HCH.out _).mono ?_; rintro e w5 ⟨rfl, hb5⟩; obtain ⟨⟨d0, d1, d2, d3, e0, e1, e2, e3⟩, hB5⟩ := HCL.out _ (hb4.then_ hb5)))
            refine wp_region_noPanic ?_
            refine wp_region_held_drew (S := (fun V : World => Bel w5 V)) (by kernel_rfl) ?_ (fun hHr13_0 => ?_)
            · (try dsimp only); (first | assumption | exact (Bel.refl w5).drew)
            refine wpAnyH_take (i := 0) (oi := _) (v := ?vr13_1_0) rfl (by kernel_rfl) (by kernel_rfl) (by kernel_rfl) ?hqr13_1_0 (Or.inl ⟨by kernel_rfl, ?hyr13_1_0⟩) (by assumption) ?restr13_1_0
            case hqr13_1_0 => exact fun _ _ _ h => h
            case hyr13_1_0 => (intro w hSw; (try dsimp only at hSw); go_simp; try with_reducible rfl)
            try simp only [Act.put, List.getElem_toArray, List.getElem_cons_succ, List.getElem_cons_zero, List.setIfInBounds_toArray, List.set_cons_zero, List.set_cons_succ]
            refine wpAnyH_take (i := 1) (oi := _) (v := ?vr13_1_1) rfl (by kernel_rfl) (by kernel_rfl) (by kernel_rfl) ?hqr13_1_1 (Or.inl ⟨by kernel_rfl, ?hyr13_1_1⟩) (by assumption) ?restr13_1_1
            case hqr13_1_1 => exact fun _ _ _ h => h
            case hyr13_1_1 => (intro w hSw; (try dsimp only at hSw); go_simp; try with_reducible rfl)
            try simp only [Act.put, List.getElem_toArray, List.getElem_cons_succ, List.getElem_cons_zero, List.setIfInBounds_toArray, List.set_cons_zero, List.set_cons_succ]
            refine wpAnyH_take (i := 2) (oi := _) (v := ?vr13_1_2) rfl (by kernel_rfl) (by kernel_rfl) (by kernel_rfl) ?hqr13_1_2 (Or.inl ⟨by kernel_rfl, ?hyr13_1_2⟩) (by assumption) ?restr13_1_2
            case hqr13_1_2 => exact fun _ _ _ h => h
            case hyr13_1_2 => (intro w hSw; (try dsimp only at hSw); go_simp; try with_reducible rfl)
            try simp only [Act.put, List.getElem_toArray, List.getElem_cons_succ, List.getElem_cons_zero, List.setIfInBounds_toArray, List.set_cons_zero, List.set_cons_succ]
            refine wpAnyH_take (i := 3) (oi := _) (v := undef) rfl (by kernel_rfl) (by kernel_rfl) (by kernel_rfl) (fun _ _ _ h => h) (Or.inr ⟨by kernel_rfl, rfl⟩) (by assumption) ?restr13_1_3
            try simp only [Act.put, List.getElem_toArray, List.getElem_cons_succ, List.getElem_cons_zero, List.setIfInBounds_toArray, List.set_cons_zero, List.set_cons_succ]
            refine wpAnyH_take (i := 4) (oi := _) (v := undef) rfl (by kernel_rfl) (by kernel_rfl) (by kernel_rfl) (fun _ _ _ h => h) (Or.inr ⟨by kernel_rfl, rfl⟩) (by assumption) ?restr13_1_4
            try simp only [Act.put, List.getElem_toArray, List.getElem_cons_succ, List.getElem_cons_zero, List.setIfInBounds_toArray, List.set_cons_zero, List.set_cons_succ]
            refine wpAnyH_take (i := 5) (oi := _) (v := undef) rfl (by kernel_rfl) (by kernel_rfl) (by kernel_rfl) (fun _ _ _ h => h) (Or.inr ⟨by kernel_rfl, rfl⟩) (by assumption) ?restr13_1_5
            try simp only [Act.put, List.getElem_toArray, List.getElem_cons_succ, List.getElem_cons_zero, List.setIfInBounds_toArray, List.set_cons_zero, List.set_cons_succ]
            refine wpAnyH_take (i := 6) (oi := _) (v := undef) rfl (by kernel_rfl) (by kernel_rfl) (by kernel_rfl) (fun _ _ _ h => h) (Or.inr ⟨by kernel_rfl, rfl⟩) (by assumption) ?restr13_1_6
            try simp only [Act.put, List.getElem_toArray, List.getElem_cons_succ, List.getElem_cons_zero, List.setIfInBounds_toArray, List.set_cons_zero, List.set_cons_succ]
            refine wpAnyH_take (i := 7) (oi := _) (v := undef) rfl (by kernel_rfl) (by kernel_rfl) (by kernel_rfl) (fun _ _ _ h => h) (Or.inr ⟨by kernel_rfl, rfl⟩) (by assumption) ?restr13_1_7
            try simp only [Act.put, List.getElem_toArray, List.getElem_cons_succ, List.getElem_cons_zero, List.setIfInBounds_toArray, List.set_cons_zero, List.set_cons_succ]
            refine wpAnyH_take (i := 8) (oi := _) (v := undef) rfl (by kernel_rfl) (by kernel_rfl) (by kernel_rfl) (fun _ _ _ h => h) (Or.inr ⟨by kernel_rfl, rfl⟩) (by assumption) ?restr13_1_8
            try simp only [Act.put, List.getElem_toArray, List.getElem_cons_succ, List.getElem_cons_zero, List.setIfInBounds_toArray, List.set_cons_zero, List.set_cons_succ]
            refine wpAnyH_take (i := 9) (oi := _) (v := undef) rfl (by kernel_rfl) (by kernel_rfl) (by kernel_rfl) (fun _ _ _ h => h) (Or.inr ⟨by kernel_rfl, rfl⟩) (by assumption) ?restr13_1_9
            try simp only [Act.put, List.getElem_toArray, List.getElem_cons_succ, List.getElem_cons_zero, List.setIfInBounds_toArray, List.set_cons_zero, List.set_cons_succ]
            refine wpAnyH_take (i := 10) (oi := _) (v := undef) rfl (by kernel_rfl) (by kernel_rfl) (by kernel_rfl) (fun _ _ _ h => h) (Or.inr ⟨by kernel_rfl, rfl⟩) (by assumption) ?restr13_1_10
            try simp only [Act.put, List.getElem_toArray, List.getElem_cons_succ, List.getElem_cons_zero, List.setIfInBounds_toArray, List.set_cons_zero, List.set_cons_succ]
            refine wpAnyH_take (i := 11) (oi := _) (v := undef) rfl (by kernel_rfl) (by kernel_rfl) (by kernel_rfl) (fun _ _ _ h => h) (Or.inr ⟨by kernel_rfl, rfl⟩) (by assumption) ?restr13_1_11
            try simp only [Act.put, List.getElem_toArray, List.getElem_cons_succ, List.getElem_cons_zero, List.setIfInBounds_toArray, List.set_cons_zero, List.set_cons_succ]
            refine wpAnyH_take (i := 12) (oi := _) (v := undef) rfl (by kernel_rfl) (by kernel_rfl) (by kernel_rfl) (fun _ _ _ h => h) (Or.inr ⟨by kernel_rfl, rfl⟩) (by assumption) ?restr13_1_12
            try simp only [Act.put, List.getElem_toArray, List.getElem_cons_succ, List.getElem_cons_zero, List.setIfInBounds_toArray, List.set_cons_zero, List.set_cons_succ]
            refine wpAnyH_take (i := 13) (oi := _) (v := undef) rfl (by kernel_rfl) (by kernel_rfl) (by kernel_rfl) (fun _ _ _ h => h) (Or.inr ⟨by kernel_rfl, rfl⟩) (by assumption) ?restr13_1_13
            try simp only [Act.put, List.getElem_toArray, List.getElem_cons_succ, List.getElem_cons_zero, List.setIfInBounds_toArray, List.set_cons_zero, List.set_cons_succ]
            refine wpAnyH_take (i := 14) (oi := _) (v := undef) rfl (by kernel_rfl) (by kernel_rfl) (by kernel_rfl) (fun _ _ _ h => h) (Or.inr ⟨by kernel_rfl, rfl⟩) (by assumption) ?restr13_1_14
            try simp only [Act.put, List.getElem_toArray, List.getElem_cons_succ, List.getElem_cons_zero, List.setIfInBounds_toArray, List.set_cons_zero, List.set_cons_succ]
            refine wpAnyH_take (i := 15) (oi := _) (v := undef) rfl (by kernel_rfl) (by kernel_rfl) (by kernel_rfl) (fun _ _ _ h => h) (Or.inr ⟨by kernel_rfl, rfl⟩) (by assumption) ?restr13_1_15
            try simp only [Act.put, List.getElem_toArray, List.getElem_cons_succ, List.getElem_cons_zero, List.setIfInBounds_toArray, List.set_cons_zero, List.set_cons_succ]
            refine wpAnyH_take (i := 16) (oi := _) (v := undef) rfl (by kernel_rfl) (by kernel_rfl) (by kernel_rfl) (fun _ _ _ h => h) (Or.inr ⟨by kernel_rfl, rfl⟩) (by assumption) ?restr13_1_16
            try simp only [Act.put, List.getElem_toArray, List.getElem_cons_succ, List.getElem_cons_zero, List.setIfInBounds_toArray, List.set_cons_zero, List.set_cons_succ]
            refine wpAnyH_take (i := 17) (oi := _) (v := undef) rfl (by kernel_rfl) (by kernel_rfl) (by kernel_rfl) (fun _ _ _ h => h) (Or.inr ⟨by kernel_rfl, rfl⟩) (by assumption) ?restr13_1_17
            try simp only [Act.put, List.getElem_toArray, List.getElem_cons_succ, List.getElem_cons_zero, List.setIfInBounds_toArray, List.set_cons_zero, List.set_cons_succ]
            refine wpAnyH_take (i := 18) (oi := _) (v := undef) rfl (by kernel_rfl) (by kernel_rfl) (by kernel_rfl) (fun _ _ _ h => h) (Or.inr ⟨by kernel_rfl, rfl⟩) (by assumption) ?restr13_1_18
            try simp only [Act.put, List.getElem_toArray, List.getElem_cons_succ, List.getElem_cons_zero, List.setIfInBounds_toArray, List.set_cons_zero, List.set_cons_succ]
            refine wpAnyH_take (i := 19) (oi := _) (v := ?vr13_1_19) rfl (by kernel_rfl) (by kernel_rfl) (by kernel_rfl) ?hqr13_1_19 (Or.inl ⟨by kernel_rfl, ?hyr13_1_19⟩) (by assumption) ?restr13_1_19
            case hqr13_1_19 => exact fun _ _ _ h => h
            case hyr13_1_19 => (intro w hSw; (try dsimp only at hSw); go_simp; try with_reducible rfl)
            try simp only [Act.put, List.getElem_toArray, List.getElem_cons_succ, List.getElem_cons_zero, List.setIfInBounds_toArray, List.set_cons_zero, List.set_cons_succ]
            refine wpAnyH_take (i := 20) (oi := _) (v := ?vr13_1_20) rfl (by kernel_rfl) (by kernel_rfl) (by kernel_rfl) ?hqr13_1_20 (Or.inl ⟨by kernel_rfl, ?hyr13_1_20⟩) (by assumption) ?restr13_1_20
            case hqr13_1_20 => exact fun _ _ _ h => h
            case hyr13_1_20 => (intro w hSw; (try dsimp only at hSw); go_simp; try with_reducible rfl)
            try simp only [Act.put, List.getElem_toArray, List.getElem_cons_succ, List.getElem_cons_zero, List.setIfInBounds_toArray, List.set_cons_zero, List.set_cons_succ]
            refine wpAnyH_done (by kernel_rfl) ?_ _
            refine NoPanic.normal ?_
            go_wp2
            refine wp_region_noPanic ?_
            refine wp_region_held_drew (S := (fun V : World => Bel w5 V)) (by kernel_rfl) ?_ (fun hHr14_0 => ?_)
            · (try dsimp only); (first | assumption | exact (Bel.refl w5).drew.drew)
            refine wpAnyH_take (i := 0) (oi := _) (v := ?vr14_1_0) rfl (by kernel_rfl) (by kernel_rfl) (by kernel_rfl) ?hqr14_1_0 (Or.inl ⟨by kernel_rfl, ?hyr14_1_0⟩) (by assumption) ?restr14_1_0
            case hqr14_1_0 => exact fun _ _ _ h => h
            case hyr14_1_0 => (intro w hSw; (try dsimp only at hSw); go_simp; try with_reducible rfl)
            try simp only [Act.put, List.getElem_toArray, List.getElem_cons_succ, List.getElem_cons_zero, List.setIfInBounds_toArray, List.set_cons_zero, List.set_cons_succ]
            refine wpAnyH_take (i := 1) (oi := _) (v := ?vr14_1_1) rfl (by kernel_rfl) (by kernel_rfl) (by kernel_rfl) ?hqr14_1_1 (Or.inl ⟨by kernel_rfl, ?hyr14_1_1⟩) (by assumption) ?restr14_1_1
            case hqr14_1_1 => exact fun _ _ _ h => h
            case hyr14_1_1 => (intro w hSw; (try dsimp only at hSw); go_simp; try with_reducible rfl)
            try simp only [Act.put, List.getElem_toArray, List.getElem_cons_succ, List.getElem_cons_zero, List.setIfInBounds_toArray, List.set_cons_zero, List.set_cons_succ]
            refine wpAnyH_take (i := 2) (oi := _) (v := ?vr14_1_2) rfl (by kernel_rfl) (by kernel_rfl) (by kernel_rfl) ?hqr14_1_2 (Or.inl ⟨by kernel_rfl, ?hyr14_1_2⟩) (by assumption) ?restr14_1_2
            case hqr14_1_2 => exact fun _ _ _ h => h
            case hyr14_1_2 => (intro w hSw; (try dsimp only at hSw); go_simp; try with_reducible rfl)
            try simp only [Act.put, List.getElem_toArray, List.getElem_cons_succ, List.getElem_cons_zero, List.setIfInBounds_toArray, List.set_cons_zero, List.set_cons_succ]
            refine wpAnyH_take (i := 3) (oi := _) (v := undef) rfl (by kernel_rfl) (by kernel_rfl) (by kernel_rfl) (fun _ _ _ h => h) (Or.inr ⟨by kernel_rfl, rfl⟩) (by assumption) ?restr14_1_3
            try simp only [Act.put, List.getElem_toArray, List.getElem_cons_succ, List.getElem_cons_zero, List.setIfInBounds_toArray, List.set_cons_zero, List.set_cons_succ]
            refine wpAnyH_take (i := 4) (oi := _) (v := undef) rfl (by kernel_rfl) (by kernel_rfl) (by kernel_rfl) (fun _ _ _ h => h) (Or.inr ⟨by kernel_rfl, rfl⟩) (by assumption) ?restr14_1_4
            try simp only [Act.put, List.getElem_toArray, List.getElem_cons_succ, List.getElem_cons_zero, List.setIfInBounds_toArray, List.set_cons_zero, List.set_cons_succ]
            refine wpAnyH_take (i := 5) (oi := _) (v := undef) rfl (by kernel_rfl) (by kernel_rfl) (by kernel_rfl) (fun _ _ _ h => h) (Or.inr ⟨by kernel_rfl, rfl⟩) (by assumption) ?restr14_1_5
            try simp only [Act.put, List.getElem_toArray, List.getElem_cons_succ, List.getElem_cons_zero, List.setIfInBounds_toArray, List.set_cons_zero, List.set_cons_succ]
            refine wpAnyH_take (i := 6) (oi := _) (v := undef) rfl (by kernel_rfl) (by kernel_rfl) (by kernel_rfl) (fun _ _ _ h => h) (Or.inr ⟨by kernel_rfl, rfl⟩) (by assumption) ?restr14_1_6
            try simp only [Act.put, List.getElem_toArray, List.getElem_cons_succ, List.getElem_cons_zero, List.setIfInBounds_toArray, List.set_cons_zero, List.set_cons_succ]
            refine wpAnyH_take (i := 7) (oi := _) (v := undef) rfl (by kernel_rfl) (by kernel_rfl) (by kernel_rfl) (fun _ _ _ h => h) (Or.inr ⟨by kernel_rfl, rfl⟩) (by assumption) ?restr14_1_7
            try simp only [Act.put, List.getElem_toArray, List.getElem_cons_succ, List.getElem_cons_zero, List.setIfInBounds_toArray, List.set_cons_zero, List.set_cons_succ]
            refine wpAnyH_take (i := 8) (oi := _) (v := undef) rfl (by kernel_rfl) (by kernel_rfl) (by kernel_rfl) (fun _ _ _ h => h) (Or.inr ⟨by kernel_rfl, rfl⟩) (by assumption) ?restr14_1_8
            try simp only [Act.put, List.getElem_toArray, List.getElem_cons_succ, List.getElem_cons_zero, List.setIfInBounds_toArray, List.set_cons_zero, List.set_cons_succ]
            refine wpAnyH_take (i := 9) (oi := _) (v := ?vr14_1_9) rfl (by kernel_rfl) (by kernel_rfl) (by kernel_rfl) ?hqr14_1_9 (Or.inl ⟨by kernel_rfl, ?hyr14_1_9⟩) (by assumption) ?restr14_1_9
            case hqr14_1_9 => exact fun _ _ _ h => h
            case hyr14_1_9 => (intro w hSw; (try dsimp only at hSw); go_simp; try with_reducible rfl)
            try simp only [Act.put, List.getElem_toArray, List.getElem_cons_succ, List.getElem_cons_zero, List.setIfInBounds_toArray, List.set_cons_zero, List.set_cons_succ]
            refine wpAnyH_take (i := 10) (oi := _) (v := ?vr14_1_10) rfl (by kernel_rfl) (by kernel_rfl) (by kernel_rfl) ?hqr14_1_10 (Or.inl ⟨by kernel_rfl, ?hyr14_1_10⟩) (by assumption) ?restr14_1_10
            case hqr14_1_10 => exact fun _ _ _ h => h
            case hyr14_1_10 => (intro w hSw; (try dsimp only at hSw); go_simp; try with_reducible rfl)
            try simp only [Act.put, List.getElem_toArray, List.getElem_cons_succ, List.getElem_cons_zero, List.setIfInBounds_toArray, List.set_cons_zero, List.set_cons_succ]
            refine wpAnyH_done (by kernel_rfl) ?_ _
            refine NoPanic.normal ?_
            go_wp2
            go_ret
            exact ⟨by rw [HR1.out]; rfl, hB5.then_ (Bel.refl w5).drew.drew⟩
          · have HR1 : Hid (R = if (b.size : Int) ≤ z then 0 else 133) := by show _ = _; rw [hR1]; unfold fitB; simp only [show ¬ ((4 : Int) = 0) by decide, if_false, if_true, show ¬ ((4 : Int) = 1) by decide, show ¬ ((4 : Int) = 2) by decide, show ¬ ((4 : Int) = 3) by decide]; split <;> simp_all
            clear hR1 HSZ
            by_cases hl : z < (b.size : Int)
            · have hR2 : R = 133 := by rw [HR1.out, if_neg (by omega)]
              go_enter Tryz.func24, Tryz.ntmps24
              go_wp2_with (first | (go_at_call 56; refine (HCO.out _).mono ?_; rintro e w4 ⟨rfl, hb4⟩; obtain ⟨⟨a0, a1, a2, a3, c0, c1, c2, c3⟩, hB4⟩ := HCL.out _ hb4) | (go_at_call 57; refine (HCH.out _).mono ?_; rintro e w5 ⟨rfl, hb5⟩; obtain ⟨⟨d0, d1, d2, d3, e0, e1, e2, e3⟩, hB5⟩ := HCL.out _ (hb4.then_ hb5)))
              refine wp_region_noPanic ?_
              refine wp_region_held_drew (S := (fun V : World => Bel w5 V)) (by kernel_rfl) ?_ (fun hHr15_0 => ?_)
              · (try dsimp only); (first | assumption | exact (Bel.refl w5).drew)
              refine wpAnyH_take (i := 0) (oi := _) (v := ?vr15_1_0) rfl (by kernel_rfl) (by kernel_rfl) (by kernel_rfl) ?hqr15_1_0 (Or.inl ⟨by kernel_rfl, ?hyr15_1_0⟩) (by assumption) ?restr15_1_0
              case hqr15_1_0 => exact fun _ _ _ h => h
              case hyr15_1_0 => (intro w hSw; (try dsimp only at hSw); go_simp; try with_reducible rfl)
              try simp only [Act.put, List.getElem_toArray, List.getElem_cons_succ, List.getElem_cons_zero, List.setIfInBounds_toArray, List.set_cons_zero, List.set_cons_succ]
              refine wpAnyH_take (i := 1) (oi := _) (v := ?vr15_1_1) rfl (by kernel_rfl) (by kernel_rfl) (by kernel_rfl) ?hqr15_1_1 (Or.inl ⟨by kernel_rfl, ?hyr15_1_1⟩) (by assumption) ?restr15_1_1
              case hqr15_1_1 => exact fun _ _ _ h => h
              case hyr15_1_1 => (intro w hSw; (try dsimp only at hSw); go_simp; try with_reducible rfl)
              try simp only [Act.put, List.getElem_toArray, List.getElem_cons_succ, List.getElem_cons_zero, List.setIfInBounds_toArray, List.set_cons_zero, List.set_cons_succ]
              refine wpAnyH_take (i := 2) (oi := _) (v := ?vr15_1_2) rfl (by kernel_rfl) (by kernel_rfl) (by kernel_rfl) ?hqr15_1_2 (Or.inl ⟨by kernel_rfl, ?hyr15_1_2⟩) (by assumption) ?restr15_1_2
              case hqr15_1_2 => exact fun _ _ _ h => h
              case hyr15_1_2 => (intro w hSw; (try dsimp only at hSw); go_simp; try with_reducible rfl)
              try simp only [Act.put, List.getElem_toArray, List.getElem_cons_succ, List.getElem_cons_zero, List.setIfInBounds_toArray, List.set_cons_zero, List.set_cons_succ]
              refine wpAnyH_take (i := 3) (oi := _) (v := undef) rfl (by kernel_rfl) (by kernel_rfl) (by kernel_rfl) (fun _ _ _ h => h) (Or.inr ⟨by kernel_rfl, rfl⟩) (by assumption) ?restr15_1_3
              try simp only [Act.put, List.getElem_toArray, List.getElem_cons_succ, List.getElem_cons_zero, List.setIfInBounds_toArray, List.set_cons_zero, List.set_cons_succ]
              refine wpAnyH_take (i := 4) (oi := _) (v := undef) rfl (by kernel_rfl) (by kernel_rfl) (by kernel_rfl) (fun _ _ _ h => h) (Or.inr ⟨by kernel_rfl, rfl⟩) (by assumption) ?restr15_1_4
              try simp only [Act.put, List.getElem_toArray, List.getElem_cons_succ, List.getElem_cons_zero, List.setIfInBounds_toArray, List.set_cons_zero, List.set_cons_succ]
              refine wpAnyH_take (i := 5) (oi := _) (v := undef) rfl (by kernel_rfl) (by kernel_rfl) (by kernel_rfl) (fun _ _ _ h => h) (Or.inr ⟨by kernel_rfl, rfl⟩) (by assumption) ?restr15_1_5
              try simp only [Act.put, List.getElem_toArray, List.getElem_cons_succ, List.getElem_cons_zero, List.setIfInBounds_toArray, List.set_cons_zero, List.set_cons_succ]
              refine wpAnyH_take (i := 6) (oi := _) (v := undef) rfl (by kernel_rfl) (by kernel_rfl) (by kernel_rfl) (fun _ _ _ h => h) (Or.inr ⟨by kernel_rfl, rfl⟩) (by assumption) ?restr15_1_6
              try simp only [Act.put, List.getElem_toArray, List.getElem_cons_succ, List.getElem_cons_zero, List.setIfInBounds_toArray, List.set_cons_zero, List.set_cons_succ]
              refine wpAnyH_take (i := 7) (oi := _) (v := undef) rfl (by kernel_rfl) (by kernel_rfl) (by kernel_rfl) (fun _ _ _ h => h) (Or.inr ⟨by kernel_rfl, rfl⟩) (by assumption) ?restr15_1_7
              try simp only [Act.put, List.getElem_toArray, List.getElem_cons_succ, List.getElem_cons_zero, List.setIfInBounds_toArray, List.set_cons_zero, List.set_cons_succ]
              refine wpAnyH_take (i := 8) (oi := _) (v := undef) rfl (by kernel_rfl) (by kernel_rfl) (by kernel_rfl) (fun _ _ _ h => h) (Or.inr ⟨by kernel_rfl, rfl⟩) (by assumption) ?restr15_1_8
              try simp only [Act.put, List.getElem_toArray, List.getElem_cons_succ, List.getElem_cons_zero, List.setIfInBounds_toArray, List.set_cons_zero, List.set_cons_succ]
              refine wpAnyH_take (i := 9) (oi := _) (v := undef) rfl (by kernel_rfl) (by kernel_rfl) (by kernel_rfl) (fun _ _ _ h => h) (Or.inr ⟨by kernel_rfl, rfl⟩) (by assumption) ?restr15_1_9
              try simp only [Act.put, List.getElem_toArray, List.getElem_cons_succ, List.getElem_cons_zero, List.setIfInBounds_toArray, List.set_cons_zero, List.set_cons_succ]
              refine wpAnyH_take (i := 10) (oi := _) (v := undef) rfl (by kernel_rfl) (by kernel_rfl) (by kernel_rfl) (fun _ _ _ h => h) (Or.inr ⟨by kernel_rfl, rfl⟩) (by assumption) ?restr15_1_10
              try simp only [Act.put, List.getElem_toArray, List.getElem_cons_succ, List.getElem_cons_zero, List.setIfInBounds_toArray, List.set_cons_zero, List.set_cons_succ]
              refine wpAnyH_take (i := 11) (oi := _) (v := undef) rfl (by kernel_rfl) (by kernel_rfl) (by kernel_rfl) (fun _ _ _ h => h) (Or.inr ⟨by kernel_rfl, rfl⟩) (by assumption) ?restr15_1_11
              try simp only [Act.put, List.getElem_toArray, List.getElem_cons_succ, List.getElem_cons_zero, List.setIfInBounds_toArray, List.set_cons_zero, List.set_cons_succ]
              refine wpAnyH_take (i := 12) (oi := _) (v := undef) rfl (by kernel_rfl) (by kernel_rfl) (by kernel_rfl) (fun _ _ _ h => h) (Or.inr ⟨by kernel_rfl, rfl⟩) (by assumption) ?restr15_1_12
              try simp only [Act.put, List.getElem_toArray, List.getElem_cons_succ, List.getElem_cons_zero, List.setIfInBounds_toArray, List.set_cons_zero, List.set_cons_succ]
              refine wpAnyH_take (i := 13) (oi := _) (v := undef) rfl (by kernel_rfl) (by kernel_rfl) (by kernel_rfl) (fun _ _ _ h => h) (Or.inr ⟨by kernel_rfl, rfl⟩) (by assumption) ?restr15_1_13
              try simp only [Act.put, List.getElem_toArray, List.getElem_cons_succ, List.getElem_cons_zero, List.setIfInBounds_toArray, List.set_cons_zero, List.set_cons_succ]
              refine wpAnyH_take (i := 14) (oi := _) (v := undef) rfl (by kernel_rfl) (by kernel_rfl) (by kernel_rfl) (fun _ _ _ h => h) (Or.inr ⟨by kernel_rfl, rfl⟩) (by assumption) ?restr15_1_14
              try simp only [Act.put, List.getElem_toArray, List.getElem_cons_succ, List.getElem_cons_zero, List.setIfInBounds_toArray, List.set_cons_zero, List.set_cons_succ]
              refine wpAnyH_take (i := 15) (oi := _) (v := undef) rfl (by kernel_rfl) (by kernel_rfl) (by kernel_rfl) (fun _ _ _ h => h) (Or.inr ⟨by kernel_rfl, rfl⟩) (by assumption) ?restr15_1_15
              try simp only [Act.put, List.getElem_toArray, List.getElem_cons_succ, List.getElem_cons_zero, List.setIfInBounds_toArray, List.set_cons_zero, List.set_cons_succ]
              refine wpAnyH_take (i := 16) (oi := _) (v := undef) rfl (by kernel_rfl) (by kernel_rfl) (by kernel_rfl) (fun _ _ _ h => h) (Or.inr ⟨by kernel_rfl, rfl⟩) (by assumption) ?restr15_1_16
              try simp only [Act.put, List.getElem_toArray, List.getElem_cons_succ, List.getElem_cons_zero, List.setIfInBounds_toArray, List.set_cons_zero, List.set_cons_succ]
              refine wpAnyH_take (i := 17) (oi := _) (v := undef) rfl (by kernel_rfl) (by kernel_rfl) (by kernel_rfl) (fun _ _ _ h => h) (Or.inr ⟨by kernel_rfl, rfl⟩) (by assumption) ?restr15_1_17
              try simp only [Act.put, List.getElem_toArray, List.getElem_cons_succ, List.getElem_cons_zero, List.setIfInBounds_toArray, List.set_cons_zero, List.set_cons_succ]
              refine wpAnyH_take (i := 18) (oi := _) (v := undef) rfl (by kernel_rfl) (by kernel_rfl) (by kernel_rfl) (fun _ _ _ h => h) (Or.inr ⟨by kernel_rfl, rfl⟩) (by assumption) ?restr15_1_18
              try simp only [Act.put, List.getElem_toArray, List.getElem_cons_succ, List.getElem_cons_zero, List.setIfInBounds_toArray, List.set_cons_zero, List.set_cons_succ]
              refine wpAnyH_take (i := 19) (oi := _) (v := ?vr15_1_19) rfl (by kernel_rfl) (by kernel_rfl) (by kernel_rfl) ?hqr15_1_19 (Or.inl ⟨by kernel_rfl, ?hyr15_1_19⟩) (by assumption) ?restr15_1_19
              case hqr15_1_19 => exact fun _ _ _ h => h
              case hyr15_1_19 => (intro w hSw; (try dsimp only at hSw); go_simp; try with_reducible rfl)
              try simp only [Act.put, List.getElem_toArray, List.getElem_cons_succ, List.getElem_cons_zero, List.setIfInBounds_toArray, List.set_cons_zero, List.set_cons_succ]
              refine wpAnyH_take (i := 20) (oi := _) (v := ?vr15_1_20) rfl (by kernel_rfl) (by kernel_rfl) (by kernel_rfl) ?hqr15_1_20 (Or.inl ⟨by kernel_rfl, ?hyr15_1_20⟩) (by assumption) ?restr15_1_20
              case hqr15_1_20 => exact fun _ _ _ h => h
              case hyr15_1_20 => (intro w hSw; (try dsimp only at hSw); go_simp; try with_reducible rfl)
              try simp only [Act.put, List.getElem_toArray, List.getElem_cons_succ, List.getElem_cons_zero, List.setIfInBounds_toArray, List.set_cons_zero, List.set_cons_succ]
              refine wpAnyH_done (by kernel_rfl) ?_ _
              refine NoPanic.normal ?_
              go_wp2
              refine wp_region_noPanic ?_
              refine wp_region_held_drew (S := (fun V : World => Bel w5 V)) (by kernel_rfl) ?_ (fun hHr16_0 => ?_)
              · (try dsimp only); (first | assumption | exact (Bel.refl w5).drew.drew)
              refine wpAnyH_take (i := 0) (oi := _) (v := ?vr16_1_0) rfl (by kernel_rfl) (by kernel_rfl) (by kernel_rfl) ?hqr16_1_0 (Or.inl ⟨by kernel_rfl, ?hyr16_1_0⟩) (by assumption) ?restr16_1_0
              case hqr16_1_0 => exact fun _ _ _ h => h
              case hyr16_1_0 => (intro w hSw; (try dsimp only at hSw); go_simp; try with_reducible rfl)
              try simp only [Act.put, List.getElem_toArray, List.getElem_cons_succ, List.getElem_cons_zero, List.setIfInBounds_toArray, List.set_cons_zero, List.set_cons_succ]
              refine wpAnyH_take (i := 1) (oi := _) (v := ?vr16_1_1) rfl (by kernel_rfl) (by kernel_rfl) (by kernel_rfl) ?hqr16_1_1 (Or.inl ⟨by kernel_rfl, ?hyr16_1_1⟩) (by assumption) ?restr16_1_1
              case hqr16_1_1 => exact fun _ _ _ h => h
              case hyr16_1_1 => (intro w hSw; (try dsimp only at hSw); go_simp; try with_reducible rfl)
              try simp only [Act.put, List.getElem_toArray, List.getElem_cons_succ, List.getElem_cons_zero, List.setIfInBounds_toArray, List.set_cons_zero, List.set_cons_succ]
              refine wpAnyH_take (i := 2) (oi := _) (v := ?vr16_1_2) rfl (by kernel_rfl) (by kernel_rfl) (by kernel_rfl) ?hqr16_1_2 (Or.inl ⟨by kernel_rfl, ?hyr16_1_2⟩) (by assumption) ?restr16_1_2
              case hqr16_1_2 => exact fun _ _ _ h => h
              case hyr16_1_2 => (intro w hSw; (try dsimp only at hSw); go_simp; try with_reducible rfl)
              try simp only [Act.put, List.getElem_toArray, List.getElem_cons_succ, List.getElem_cons_zero, List.setIfInBounds_toArray, List.set_cons_zero, List.set_cons_succ]
              refine wpAnyH_take (i := 3) (oi := _) (v := undef) rfl (by kernel_rfl) (by kernel_rfl) (by kernel_rfl) (fun _ _ _ h => h) (Or.inr ⟨by kernel_rfl, rfl⟩) (by assumption) ?restr16_1_3
              try simp only [Act.put, List.getElem_toArray, List.getElem_cons_succ, List.getElem_cons_zero, List.setIfInBounds_toArray, List.set_cons_zero, List.set_cons_succ]
              refine wpAnyH_take (i := 4) (oi := _) (v := undef) rfl (by kernel_rfl) (by kernel_rfl) (by kernel_rfl) (fun _ _ _ h => h) (Or.inr ⟨by kernel_rfl, rfl⟩) (by assumption) ?restr16_1_4
              try simp only [Act.put, List.getElem_toArray, List.getElem_cons_succ, List.getElem_cons_zero, List.setIfInBounds_toArray, List.set_cons_zero, List.set_cons_succ]
              refine wpAnyH_take (i := 5) (oi := _) (v := undef) rfl (by kernel_rfl) (by kernel_rfl) (by kernel_rfl) (fun _ _ _ h => h) (Or.inr ⟨by kernel_rfl, rfl⟩) (by assumption) ?restr16_1_5
              try simp only [Act.put, List.getElem_toArray, List.getElem_cons_succ, List.getElem_cons_zero, List.setIfInBounds_toArray, List.set_cons_zero, List.set_cons_succ]
              refine wpAnyH_take (i := 6) (oi := _) (v := undef) rfl (by kernel_rfl) (by kernel_rfl) (by kernel_rfl) (fun _ _ _ h => h) (Or.inr ⟨by kernel_rfl, rfl⟩) (by assumption) ?restr16_1_6
              try simp only [Act.put, List.getElem_toArray, List.getElem_cons_succ, List.getElem_cons_zero, List.setIfInBounds_toArray, List.set_cons_zero, List.set_cons_succ]
              refine wpAnyH_take (i := 7) (oi := _) (v := undef) rfl (by kernel_rfl) (by kernel_rfl) (by kernel_rfl) (fun _ _ _ h => h) (Or.inr ⟨by kernel_rfl, rfl⟩) (by assumption) ?restr16_1_7
              try simp only [Act.put, List.getElem_toArray, List.getElem_cons_succ, List.getElem_cons_zero, List.setIfInBounds_toArray, List.set_cons_zero, List.set_cons_succ]
              refine wpAnyH_take (i := 8) (oi := _) (v := undef) rfl (by kernel_rfl) (by kernel_rfl) (by kernel_rfl) (fun _ _ _ h => h) (Or.inr ⟨by kernel_rfl, rfl⟩) (by assumption) ?restr16_1_8
              try simp only [Act.put, List.getElem_toArray, List.getElem_cons_succ, List.getElem_cons_zero, List.setIfInBounds_toArray, List.set_cons_zero, List.set_cons_succ]
              refine wpAnyH_take (i := 9) (oi := _) (v := ?vr16_1_9) rfl (by kernel_rfl) (by kernel_rfl) (by kernel_rfl) ?hqr16_1_9 (Or.inl ⟨by kernel_rfl, ?hyr16_1_9⟩) (by assumption) ?restr16_1_9
              case hqr16_1_9 => exact fun _ _ _ h => h
              case hyr16_1_9 => (intro w hSw; (try dsimp only at hSw); go_simp; try with_reducible rfl)
              try simp only [Act.put, List.getElem_toArray, List.getElem_cons_succ, List.getElem_cons_zero, List.setIfInBounds_toArray, List.set_cons_zero, List.set_cons_succ]
              refine wpAnyH_take (i := 10) (oi := _) (v := ?vr16_1_10) rfl (by kernel_rfl) (by kernel_rfl) (by kernel_rfl) ?hqr16_1_10 (Or.inl ⟨by kernel_rfl, ?hyr16_1_10⟩) (by assumption) ?restr16_1_10
              case hqr16_1_10 => exact fun _ _ _ h => h
              case hyr16_1_10 => (intro w hSw; (try dsimp only at hSw); go_simp; try with_reducible rfl)
              try simp only [Act.put, List.getElem_toArray, List.getElem_cons_succ, List.getElem_cons_zero, List.setIfInBounds_toArray, List.set_cons_zero, List.set_cons_succ]
              refine wpAnyH_done (by kernel_rfl) ?_ _
              refine NoPanic.normal ?_
              go_wp2
              go_ret
              exact ⟨by rw [hR2]; rfl, hB5.then_ (Bel.refl w5).drew.drew⟩
            · have hlb : decide (z < (b.size : Int)) = false := by simp; omega
              have hR2 : R = 0 := by rw [HR1.out, if_pos (by omega)]
              go_enter Tryz.func24, Tryz.ntmps24
              go_wp2_with (first | (go_at_call 56; refine (HCO.out _).mono ?_; rintro e w4 ⟨rfl, hb4⟩; obtain ⟨⟨a0, a1, a2, a3, c0, c1, c2, c3⟩, hB4⟩ := HCL.out _ hb4) | (go_at_call 57; refine (HCH.out _).mono ?_; rintro e w5 ⟨rfl, hb5⟩; obtain ⟨⟨d0, d1, d2, d3, e0, e1, e2, e3⟩, hB5⟩ := HCL.out _ (hb4.then_ hb5)))
              refine wp_region_noPanic ?_
              refine wp_region_held_drew (S := (fun V : World => Bel w5 V)) (by kernel_rfl) ?_ (fun hHr17_0 => ?_)
              · (try dsimp only); (first | assumption | exact (Bel.refl w5).drew)
              refine wpAnyH_take (i := 0) (oi := _) (v := ?vr17_1_0) rfl (by kernel_rfl) (by kernel_rfl) (by kernel_rfl) ?hqr17_1_0 (Or.inl ⟨by kernel_rfl, ?hyr17_1_0⟩) (by assumption) ?restr17_1_0
              case hqr17_1_0 => exact fun _ _ _ h => h
              case hyr17_1_0 => (intro w hSw; (try dsimp only at hSw); go_simp; try with_reducible rfl)
              try simp only [Act.put, List.getElem_toArray, List.getElem_cons_succ, List.getElem_cons_zero, List.setIfInBounds_toArray, List.set_cons_zero, List.set_cons_succ]
              refine wpAnyH_take (i := 1) (oi := _) (v := ?vr17_1_1) rfl (by kernel_rfl) (by kernel_rfl) (by kernel_rfl) ?hqr17_1_1 (Or.inl ⟨by kernel_rfl, ?hyr17_1_1⟩) (by assumption) ?restr17_1_1
              case hqr17_1_1 => exact fun _ _ _ h => h
              case hyr17_1_1 => (intro w hSw; (try dsimp only at hSw); go_simp; try with_reducible rfl)
              try simp only [Act.put, List.getElem_toArray, List.getElem_cons_succ, List.getElem_cons_zero, List.setIfInBounds_toArray, List.set_cons_zero, List.set_cons_succ]
              refine wpAnyH_take (i := 2) (oi := _) (v := ?vr17_1_2) rfl (by kernel_rfl) (by kernel_rfl) (by kernel_rfl) ?hqr17_1_2 (Or.inl ⟨by kernel_rfl, ?hyr17_1_2⟩) (by assumption) ?restr17_1_2
              case hqr17_1_2 => exact fun _ _ _ h => h
              case hyr17_1_2 => (intro w hSw; (try dsimp only at hSw); go_simp; try with_reducible rfl)
              try simp only [Act.put, List.getElem_toArray, List.getElem_cons_succ, List.getElem_cons_zero, List.setIfInBounds_toArray, List.set_cons_zero, List.set_cons_succ]
              refine wpAnyH_take (i := 3) (oi := _) (v := undef) rfl (by kernel_rfl) (by kernel_rfl) (by kernel_rfl) (fun _ _ _ h => h) (Or.inr ⟨by kernel_rfl, rfl⟩) (by assumption) ?restr17_1_3
              try simp only [Act.put, List.getElem_toArray, List.getElem_cons_succ, List.getElem_cons_zero, List.setIfInBounds_toArray, List.set_cons_zero, List.set_cons_succ]
              refine wpAnyH_take (i := 4) (oi := _) (v := undef) rfl (by kernel_rfl) (by kernel_rfl) (by kernel_rfl) (fun _ _ _ h => h) (Or.inr ⟨by kernel_rfl, rfl⟩) (by assumption) ?restr17_1_4
              try simp only [Act.put, List.getElem_toArray, List.getElem_cons_succ, List.getElem_cons_zero, List.setIfInBounds_toArray, List.set_cons_zero, List.set_cons_succ]
              refine wpAnyH_take (i := 5) (oi := _) (v := undef) rfl (by kernel_rfl) (by kernel_rfl) (by kernel_rfl) (fun _ _ _ h => h) (Or.inr ⟨by kernel_rfl, rfl⟩) (by assumption) ?restr17_1_5
              try simp only [Act.put, List.getElem_toArray, List.getElem_cons_succ, List.getElem_cons_zero, List.setIfInBounds_toArray, List.set_cons_zero, List.set_cons_succ]
              refine wpAnyH_take (i := 6) (oi := _) (v := undef) rfl (by kernel_rfl) (by kernel_rfl) (by kernel_rfl) (fun _ _ _ h => h) (Or.inr ⟨by kernel_rfl, rfl⟩) (by assumption) ?restr17_1_6
              try simp only [Act.put, List.getElem_toArray, List.getElem_cons_succ, List.getElem_cons_zero, List.setIfInBounds_toArray, List.set_cons_zero, List.set_cons_succ]
              refine wpAnyH_take (i := 7) (oi := _) (v := undef) rfl (by kernel_rfl) (by kernel_rfl) (by kernel_rfl) (fun _ _ _ h => h) (Or.inr ⟨by kernel_rfl, rfl⟩) (by assumption) ?restr17_1_7
              try simp only [Act.put, List.getElem_toArray, List.getElem_cons_succ, List.getElem_cons_zero, List.setIfInBounds_toArray, List.set_cons_zero, List.set_cons_succ]
              refine wpAnyH_take (i := 8) (oi := _) (v := undef) rfl (by kernel_rfl) (by kernel_rfl) (by kernel_rfl) (fun _ _ _ h => h) (Or.inr ⟨by kernel_rfl, rfl⟩) (by assumption) ?restr17_1_8
              try simp only [Act.put, List.getElem_toArray, List.getElem_cons_succ, List.getElem_cons_zero, List.setIfInBounds_toArray, List.set_cons_zero, List.set_cons_succ]
              refine wpAnyH_take (i := 9) (oi := _) (v := undef) rfl (by kernel_rfl) (by kernel_rfl) (by kernel_rfl) (fun _ _ _ h => h) (Or.inr ⟨by kernel_rfl, rfl⟩) (by assumption) ?restr17_1_9
              try simp only [Act.put, List.getElem_toArray, List.getElem_cons_succ, List.getElem_cons_zero, List.setIfInBounds_toArray, List.set_cons_zero, List.set_cons_succ]
              refine wpAnyH_take (i := 10) (oi := _) (v := undef) rfl (by kernel_rfl) (by kernel_rfl) (by kernel_rfl) (fun _ _ _ h => h) (Or.inr ⟨by kernel_rfl, rfl⟩) (by assumption) ?restr17_1_10
              try simp only [Act.put, List.getElem_toArray, List.getElem_cons_succ, List.getElem_cons_zero, List.setIfInBounds_toArray, List.set_cons_zero, List.set_cons_succ]
              refine wpAnyH_take (i := 11) (oi := _) (v := undef) rfl (by kernel_rfl) (by kernel_rfl) (by kernel_rfl) (fun _ _ _ h => h) (Or.inr ⟨by kernel_rfl, rfl⟩) (by assumption) ?restr17_1_11
              try simp only [Act.put, List.getElem_toArray, List.getElem_cons_succ, List.getElem_cons_zero, List.setIfInBounds_toArray, List.set_cons_zero, List.set_cons_succ]
              refine wpAnyH_take (i := 12) (oi := _) (v := undef) rfl (by kernel_rfl) (by kernel_rfl) (by kernel_rfl) (fun _ _ _ h => h) (Or.inr ⟨by kernel_rfl, rfl⟩) (by assumption) ?restr17_1_12
              try simp only [Act.put, List.getElem_toArray, List.getElem_cons_succ, List.getElem_cons_zero, List.setIfInBounds_toArray, List.set_cons_zero, List.set_cons_succ]
              refine wpAnyH_take (i := 13) (oi := _) (v := undef) rfl (by kernel_rfl) (by kernel_rfl) (by kernel_rfl) (fun _ _ _ h => h) (Or.inr ⟨by kernel_rfl, rfl⟩) (by assumption) ?restr17_1_13
              try simp only [Act.put, List.getElem_toArray, List.getElem_cons_succ, List.getElem_cons_zero, List.setIfInBounds_toArray, List.set_cons_zero, List.set_cons_succ]
              refine wpAnyH_take (i := 14) (oi := _) (v := undef) rfl (by kernel_rfl) (by kernel_rfl) (by kernel_rfl) (fun _ _ _ h => h) (Or.inr ⟨by kernel_rfl, rfl⟩) (by assumption) ?restr17_1_14
              try simp only [Act.put, List.getElem_toArray, List.getElem_cons_succ, List.getElem_cons_zero, List.setIfInBounds_toArray, List.set_cons_zero, List.set_cons_succ]
              refine wpAnyH_take (i := 15) (oi := _) (v := undef) rfl (by kernel_rfl) (by kernel_rfl) (by kernel_rfl) (fun _ _ _ h => h) (Or.inr ⟨by kernel_rfl, rfl⟩) (by assumption) ?restr17_1_15
              try simp only [Act.put, List.getElem_toArray, List.getElem_cons_succ, List.getElem_cons_zero, List.setIfInBounds_toArray, List.set_cons_zero, List.set_cons_succ]
              refine wpAnyH_take (i := 16) (oi := _) (v := undef) rfl (by kernel_rfl) (by kernel_rfl) (by kernel_rfl) (fun _ _ _ h => h) (Or.inr ⟨by kernel_rfl, rfl⟩) (by assumption) ?restr17_1_16
              try simp only [Act.put, List.getElem_toArray, List.getElem_cons_succ, List.getElem_cons_zero, List.setIfInBounds_toArray, List.set_cons_zero, List.set_cons_succ]
              refine wpAnyH_take (i := 17) (oi := _) (v := undef) rfl (by kernel_rfl) (by kernel_rfl) (by kernel_rfl) (fun _ _ _ h => h) (Or.inr ⟨by kernel_rfl, rfl⟩) (by assumption) ?restr17_1_17
              try simp only [Act.put, List.getElem_toArray, List.getElem_cons_succ, List.getElem_cons_zero, List.setIfInBounds_toArray, List.set_cons_zero, List.set_cons_succ]
              refine wpAnyH_take (i := 18) (oi := _) (v := undef) rfl (by kernel_rfl) (by kernel_rfl) (by kernel_rfl) (fun _ _ _ h => h) (Or.inr ⟨by kernel_rfl, rfl⟩) (by assumption) ?restr17_1_18
              try simp only [Act.put, List.getElem_toArray, List.getElem_cons_succ, List.getElem_cons_zero, List.setIfInBounds_toArray, List.set_cons_zero, List.set_cons_succ]
              refine wpAnyH_take (i := 19) (oi := _) (v := ?vr17_1_19) rfl (by kernel_rfl) (by kernel_rfl) (by kernel_rfl) ?hqr17_1_19 (Or.inl ⟨by kernel_rfl, ?hyr17_1_19⟩) (by assumption) ?restr17_1_19
              case hqr17_1_19 => exact fun _ _ _ h => h
              case hyr17_1_19 => (intro w hSw; (try dsimp only at hSw); go_simp; try with_reducible rfl)
              try simp only [Act.put, List.getElem_toArray, List.getElem_cons_succ, List.getElem_cons_zero, List.setIfInBounds_toArray, List.set_cons_zero, List.set_cons_succ]
              refine wpAnyH_take (i := 20) (oi := _) (v := ?vr17_1_20) rfl (by kernel_rfl) (by kernel_rfl) (by kernel_rfl) ?hqr17_1_20 (Or.inl ⟨by kernel_rfl, ?hyr17_1_20⟩) (by assumption) ?restr17_1_20
              case hqr17_1_20 => exact fun _ _ _ h => h
              case hyr17_1_20 => (intro w hSw; (try dsimp only at hSw); go_simp; try with_reducible rfl)
              try simp only [Act.put, List.getElem_toArray, List.getElem_cons_succ, List.getElem_cons_zero, List.setIfInBounds_toArray, List.set_cons_zero, List.set_cons_succ]
              refine wpAnyH_done (by kernel_rfl) ?_ _
              refine NoPanic.normal ?_
              go_wp2
              refine wp_region_noPanic ?_
              refine wp_region_held_drew (S := (fun V : World => Bel w5 V)) (by kernel_rfl) ?_ (fun hHr18_0 => ?_)
              · (try dsimp only); (first | assumption | exact (Bel.refl w5).drew.drew)
              refine wpAnyH_take (i := 0) (oi := _) (v := ?vr18_1_0) rfl (by kernel_rfl) (by kernel_rfl) (by kernel_rfl) ?hqr18_1_0 (Or.inl ⟨by kernel_rfl, ?hyr18_1_0⟩) (by assumption) ?restr18_1_0
              case hqr18_1_0 => exact fun _ _ _ h => h
              case hyr18_1_0 => (intro w hSw; (try dsimp only at hSw); go_simp; try with_reducible rfl)
              try simp only [Act.put, List.getElem_toArray, List.getElem_cons_succ, List.getElem_cons_zero, List.setIfInBounds_toArray, List.set_cons_zero, List.set_cons_succ]
              refine wpAnyH_take (i := 1) (oi := _) (v := ?vr18_1_1) rfl (by kernel_rfl) (by kernel_rfl) (by kernel_rfl) ?hqr18_1_1 (Or.inl ⟨by kernel_rfl, ?hyr18_1_1⟩) (by assumption) ?restr18_1_1
              case hqr18_1_1 => exact fun _ _ _ h => h
              case hyr18_1_1 => (intro w hSw; (try dsimp only at hSw); go_simp; try with_reducible rfl)
              try simp only [Act.put, List.getElem_toArray, List.getElem_cons_succ, List.getElem_cons_zero, List.setIfInBounds_toArray, List.set_cons_zero, List.set_cons_succ]
              refine wpAnyH_take (i := 2) (oi := _) (v := ?vr18_1_2) rfl (by kernel_rfl) (by kernel_rfl) (by kernel_rfl) ?hqr18_1_2 (Or.inl ⟨by kernel_rfl, ?hyr18_1_2⟩) (by assumption) ?restr18_1_2
              case hqr18_1_2 => exact fun _ _ _ h => h
              case hyr18_1_2 => (intro w hSw; (try dsimp only at hSw); go_simp; try with_reducible rfl)
              try simp only [Act.put, List.getElem_toArray, List.getElem_cons_succ, List.getElem_cons_zero, List.setIfInBounds_toArray, List.set_cons_zero, List.set_cons_succ]
              refine wpAnyH_take (i := 3) (oi := _) (v := undef) rfl (by kernel_rfl) (by kernel_rfl) (by kernel_rfl) (fun _ _ _ h => h) (Or.inr ⟨by kernel_rfl, rfl⟩) (by assumption) ?restr18_1_3
              try simp only [Act.put, List.getElem_toArray, List.getElem_cons_succ, List.getElem_cons_zero, List.setIfInBounds_toArray, List.set_cons_zero, List.set_cons_succ]
              refine wpAnyH_take (i := 4) (oi := _) (v := undef) rfl (by kernel_rfl) (by kernel_rfl) (by kernel_rfl) (fun _ _ _ h => h) (Or.inr ⟨by kernel_rfl, rfl⟩) (by assumption) ?restr18_1_4
              try simp only [Act.put, List.getElem_toArray, List.getElem_cons_succ, List.getElem_cons_zero, List.setIfInBounds_toArray, List.set_cons_zero, List.set_cons_succ]
              refine wpAnyH_take (i := 5) (oi := _) (v := undef) rfl (by kernel_rfl) (by kernel_rfl) (by kernel_rfl) (fun _ _ _ h => h) (Or.inr ⟨by kernel_rfl, rfl⟩) (by assumption) ?restr18_1_5
              try simp only [Act.put, List.getElem_toArray, List.getElem_cons_succ, List.getElem_cons_zero, List.setIfInBounds_toArray, List.set_cons_zero, List.set_cons_succ]
              refine wpAnyH_take (i := 6) (oi := _) (v := undef) rfl (by kernel_rfl) (by kernel_rfl) (by kernel_rfl) (fun _ _ _ h => h) (Or.inr ⟨by kernel_rfl, rfl⟩) (by assumption) ?restr18_1_6
              try simp only [Act.put, List.getElem_toArray, List.getElem_cons_succ, List.getElem_cons_zero, List.setIfInBounds_toArray, List.set_cons_zero, List.set_cons_succ]
              refine wpAnyH_take (i := 7) (oi := _) (v := undef) rfl (by kernel_rfl) (by kernel_rfl) (by kernel_rfl) (fun _ _ _ h => h) (Or.inr ⟨by kernel_rfl, rfl⟩) (by assumption) ?restr18_1_7
              try simp only [Act.put, List.getElem_toArray, List.getElem_cons_succ, List.getElem_cons_zero, List.setIfInBounds_toArray, List.set_cons_zero, List.set_cons_succ]
              refine wpAnyH_take (i := 8) (oi := _) (v := undef) rfl (by kernel_rfl) (by kernel_rfl) (by kernel_rfl) (fun _ _ _ h => h) (Or.inr ⟨by kernel_rfl, rfl⟩) (by assumption) ?restr18_1_8
              try simp only [Act.put, List.getElem_toArray, List.getElem_cons_succ, List.getElem_cons_zero, List.setIfInBounds_toArray, List.set_cons_zero, List.set_cons_succ]
              refine wpAnyH_take (i := 9) (oi := _) (v := ?vr18_1_9) rfl (by kernel_rfl) (by kernel_rfl) (by kernel_rfl) ?hqr18_1_9 (Or.inl ⟨by kernel_rfl, ?hyr18_1_9⟩) (by assumption) ?restr18_1_9
              case hqr18_1_9 => exact fun _ _ _ h => h
              case hyr18_1_9 => (intro w hSw; (try dsimp only at hSw); go_simp; try with_reducible rfl)
              try simp only [Act.put, List.getElem_toArray, List.getElem_cons_succ, List.getElem_cons_zero, List.setIfInBounds_toArray, List.set_cons_zero, List.set_cons_succ]
              refine wpAnyH_take (i := 10) (oi := _) (v := ?vr18_1_10) rfl (by kernel_rfl) (by kernel_rfl) (by kernel_rfl) ?hqr18_1_10 (Or.inl ⟨by kernel_rfl, ?hyr18_1_10⟩) (by assumption) ?restr18_1_10
              case hqr18_1_10 => exact fun _ _ _ h => h
              case hyr18_1_10 => (intro w hSw; (try dsimp only at hSw); go_simp; try with_reducible rfl)
              try simp only [Act.put, List.getElem_toArray, List.getElem_cons_succ, List.getElem_cons_zero, List.setIfInBounds_toArray, List.set_cons_zero, List.set_cons_succ]
              refine wpAnyH_done (by kernel_rfl) ?_ _
              refine NoPanic.normal ?_
              go_wp2
              go_ret
              exact ⟨by rw [hR2]; rfl, hB5.then_ (Bel.refl w5).drew.drew⟩
        · rw [if_pos hkt] at hR1
          have hktb : (k != t) = true := by rw [bne_iff_ne]; exact hkt
          have HR1 := Lib.hid hR1
          clear hR1
          go_enter Tryz.func24, Tryz.ntmps24
          go_wp2_with (first | (go_at_call 56; refine (HCO.out _).mono ?_; rintro e w4 ⟨rfl, hb4⟩; obtain ⟨⟨a0, a1, a2, a3, c0, c1, c2, c3⟩, hB4⟩ := HCL.out _ hb4) | (go_at_call 57; refine (HCH.out _).mono ?_; rintro e w5 ⟨rfl, hb5⟩; obtain ⟨⟨d0, d1, d2, d3, e0, e1, e2, e3⟩, hB5⟩ := HCL.out _ (hb4.then_ hb5)))
          go_ret
          exact ⟨by rw [HR1.out]; rfl, hB5⟩
    · have hcb : (ci == 0) = false := by rw [beq_eq_false_iff_ne]; exact hc0
      have hR2 : R = ci := by rw [HR.out]; unfold fitsI; rw [if_neg (by rw [← HRB.out]; simp), if_pos (by rw [← HCI.out]; exact hc0), HCI.out]
      go_enter Tryz.func24, Tryz.ntmps24
      go_wp2_with (first | (go_at_call 56; refine (HCO.out _).mono ?_; rintro e w4 ⟨rfl, hb4⟩; obtain ⟨⟨a0, a1, a2, a3, c0, c1, c2, c3⟩, hB4⟩ := HCL.out _ hb4) | (go_at_call 57; refine (HCH.out _).mono ?_; rintro e w5 ⟨rfl, hb5⟩; obtain ⟨⟨d0, d1, d2, d3, e0, e1, e2, e3⟩, hB5⟩ := HCL.out _ (hb4.then_ hb5)))
      go_ret
      exact ⟨by rw [hR2]; rfl, hB5⟩
end Go.Proofs.YtkklmflclmgjeaaGreatDoor
