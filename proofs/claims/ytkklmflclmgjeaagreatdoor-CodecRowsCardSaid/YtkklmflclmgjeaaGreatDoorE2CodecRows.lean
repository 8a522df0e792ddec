/-
  What CodecRows reaches beside the base.
-/
import Derived.Test.YtkklmflclmgjeaaGreatDoorE1CodecRows
/-
  The document's answer for layer 3: which values fit a column.
-/
set_option linter.unusedVariables false
set_option linter.unusedSimpArgs false
set_option linter.unusedVariables false
set_option linter.unusedSimpArgs false
namespace Go.Proofs.YtkklmflclmgjeaaGreatDoor
open Go.RowKit Go.Shelf Go.Lib
attribute [local go_sem] Oper.semAt_some

set_option maxRecDepth 100000 in
set_option maxHeartbeats 8000000 in
theorem tFits_any (c : Col) (hm : c.name.size ≤ 9223372036854775807) (x : Val) (hx : x.Wf) (w : World) : Calls Tryz.prog 24 #[c.v, x.v] w fun e w' => e = .returned (.int .i64 (fitsI c x)) ∧ Bel w w' := by
  have HCO := Lib.hid (fun V => tcolumn_any c hm V)
  have HCH := Lib.hid (fun V => vrCheck_any x V)
  have HINT : Hid (rightB c = true → checkI x = 0 → x.k = 1 → c.t = 1 → Calls Tryz.prog 24 #[c.v, x.v] w fun e w' => e = .returned (.int .i64 (fitsI c x)) ∧ Bel w w') := fun h1 h2 h3 h4 => tFitsInt_any c hm x hx h1 h2 h3 h4 w
  obtain ⟨R, hR⟩ : ∃ R, R = fitsI c x := ⟨_, rfl⟩
  rw [← hR] at HINT ⊢
  have HR := Lib.hid hR
  clear hR
  obtain ⟨rb, hrb⟩ : ∃ rb, rb = rightB c := ⟨_, rfl⟩
  rw [← hrb] at HCO
  have HRB := Lib.hid hrb
  rw [← hrb] at HINT
  obtain ⟨ci, hci⟩ : ∃ ci, ci = checkI x := ⟨_, rfl⟩
  rw [← hci] at HCH
  have HCI := Lib.hid hci
  rw [← hci] at HINT
  clear hrb hci hm
  obtain ⟨name, t, z, null⟩ := c
  obtain ⟨k, n, u, b⟩ := x
  obtain ⟨n0, n1, u0, u1⟩ := hx
  unfold Val.v Col.v at *
  dsimp only at *
  have HCL : Hid (∀ V, Bel ((w.alloc (.cells #[.string name, .int .i64 t, .int .i64 z, .bool null] 44)).alloc (.cells #[.int .i64 k, .int .i64 n, .int .u64 u, .string b] 48)) V →
    (V.cell? ⟨w.heap.size, 0, none⟩ = some (.string name) ∧ V.cell? ⟨w.heap.size, 1, none⟩ = some (.int .i64 t) ∧ V.cell? ⟨w.heap.size, 2, none⟩ = some (.int .i64 z) ∧ V.cell? ⟨w.heap.size, 3, none⟩ = some (.bool null) ∧
     V.cell? ⟨w.heap.size + 1, 0, none⟩ = some (.int .i64 k) ∧ V.cell? ⟨w.heap.size + 1, 1, none⟩ = some (.int .i64 n) ∧ V.cell? ⟨w.heap.size + 1, 2, none⟩ = some (.int .u64 u) ∧ V.cell? ⟨w.heap.size + 1, 3, none⟩ = some (.string b)) ∧ Bel w V) :=
    fun V h => ⟨⟨h.c (by go_simp), h.c (by go_simp), h.c (by go_simp), h.c (by go_simp), h.c (by go_simp), h.c (by go_simp), h.c (by go_simp), h.c (by go_simp)⟩, (((Bel.refl w).alloc _).alloc _).then_ h⟩
  cases rb
  · have hR2 : R = 2 := by rw [HR.out]; unfold fitsI; rw [if_pos HRB.out.symm]
    go_enter Tryz.func24, Tryz.ntmps24
    go_wp2_with (go_at_call 56; refine (HCO.out _).mono ?_; rintro e w4 ⟨rfl, hb4⟩; obtain ⟨⟨a0, a1, a2, a3, c0, c1, c2, c3⟩, hB4⟩ := HCL.out _ hb4)
    go_ret
    exact ⟨by rw [hR2]; rfl, hB4⟩
  · by_cases hc0 : ci = 0
    · subst hc0
      have HT : Hid (1 ≤ t ∧ t ≤ 4) := by show _ ∧ _; have h := HRB.out; unfold rightB at h; simp at h; exact h.1.1
      have HSZ : Hid (sizeB t z = true) := by show _ = _; have h := HRB.out; unfold rightB at h; simp at h; exact h.2
      have hR1 : R = if k = 0 then (if null then 0 else 131) else if k ≠ t then 132 else if fitB t z ⟨k, n, u, b⟩ = false then 133 else 0 := by
        rw [HR.out]; unfold fitsI; rw [if_neg (by rw [← HRB.out]; simp), if_neg (by rw [← HCI.out]; simp)]
      clear HR HRB HCI
      by_cases hk0 : k = 0
      · subst hk0
        rw [if_pos rfl] at hR1
        cases null
        all_goals
          have HR1 := Lib.hid hR1
          clear hR1
          go_enter Tryz.func24, Tryz.ntmps24
          go_wp2_with (first | (go_at_call 56; refine (HCO.out _).mono ?_; rintro e w4 ⟨rfl, hb4⟩; obtain ⟨⟨a0, a1, a2, a3, c0, c1, c2, c3⟩, hB4⟩ := HCL.out _ hb4) | (go_at_call 57; refine (HCH.out _).mono ?_; rintro e w5 ⟨rfl, hb5⟩; obtain ⟨⟨d0, d1, d2, d3, e0, e1, e2, e3⟩, hB5⟩ := HCL.out _ (hb4.then_ hb5)))
          go_ret
          exact ⟨by rw [HR1.out]; rfl, hB5⟩
      · rw [if_neg hk0] at hR1
        have hk0b : (k == 0) = false := by rw [beq_eq_false_iff_ne]; exact hk0
        by_cases hkt : k = t
        · subst hkt
          rw [if_neg (by intro h; exact h rfl)] at hR1
          have hktb : (k != k) = false := by simp
          obtain ⟨hT1, hT4⟩ := HT.out
          have hc : k = 1 ∨ k = 2 ∨ k = 3 ∨ k = 4 := by omega
          clear hT1 hT4 hk0 hk0b hktb
          rcases hc with rfl | rfl | rfl | rfl
          · exact HINT.out rfl rfl rfl rfl
          · have hz : z = 1 ∨ z = 2 ∨ z = 4 ∨ z = 8 := by have := HSZ.out; unfold sizeB at this; simpa using this
            have HR1 : Hid (R = if u ≤ mostI z then 0 else 133) := by show _ = _; rw [hR1]; unfold fitB; simp only [show ¬ ((2 : Int) = 0) by decide, if_false, if_true, show ¬ ((2 : Int) = 1) by decide]; split <;> simp_all
            have HLE := Lib.hid (fun V => tmost_any z hz V)
            clear hR1 HSZ
            rcases hz with rfl | rfl | rfl | rfl
            · simp only [mostI] at HLE HR1
              go_enter Tryz.func24, Tryz.ntmps24
              go_wp2_with (first | (go_at_call 56; refine (HCO.out _).mono ?_; rintro e w4 ⟨rfl, hb4⟩; obtain ⟨⟨a0, a1, a2, a3, c0, c1, c2, c3⟩, hB4⟩ := HCL.out _ hb4) | (go_at_call 57; refine (HCH.out _).mono ?_; rintro e w5 ⟨rfl, hb5⟩; obtain ⟨⟨d0, d1, d2, d3, e0, e1, e2, e3⟩, hB5⟩ := HCL.out _ (hb4.then_ hb5)))
              refine wp_region_noPanic ?_
              refine wp_region_held_drew (S := (fun V : World => Bel w5 V)) (by kernel_rfl) ?_ (fun hHr1_0 => ?_)
              · (try dsimp only); (first | assumption | exact (Bel.refl w5).drew)
              refine wpAnyH_take (i := 0) (oi := _) (v := ?vr1_1_0) rfl (by kernel_rfl) (by kernel_rfl) (by kernel_rfl) ?hqr1_1_0 (Or.inl ⟨by kernel_rfl, ?hyr1_1_0⟩) (by assumption) ?restr1_1_0
              case hqr1_1_0 => exact fun _ _ _ h => h
              case hyr1_1_0 => (intro w hSw; (try dsimp only at hSw); go_simp; try with_reducible rfl)
              try simp only [Act.put, List.getElem_toArray, List.getElem_cons_succ, List.getElem_cons_zero, List.setIfInBounds_toArray, List.set_cons_zero, List.set_cons_succ]
              refine wpAnyH_take (i := 1) (oi := _) (v := ?vr1_1_1) rfl (by kernel_rfl) (by kernel_rfl) (by kernel_rfl) ?hqr1_1_1 (Or.inl ⟨by kernel_rfl, ?hyr1_1_1⟩) (by assumption) ?restr1_1_1
              case hqr1_1_1 => exact fun _ _ _ h => h
              case hyr1_1_1 => (intro w hSw; (try dsimp only at hSw); go_simp; try with_reducible rfl)
              try simp only [Act.put, List.getElem_toArray, List.getElem_cons_succ, List.getElem_cons_zero, List.setIfInBounds_toArray, List.set_cons_zero, List.set_cons_succ]
              refine wpAnyH_take (i := 2) (oi := _) (v := ?vr1_1_2) rfl (by kernel_rfl) (by kernel_rfl) (by kernel_rfl) ?hqr1_1_2 (Or.inl ⟨by kernel_rfl, ?hyr1_1_2⟩) (by assumption) ?restr1_1_2
              case hqr1_1_2 => exact fun _ _ _ h => h
              case hyr1_1_2 => (intro w hSw; (try dsimp only at hSw); go_simp; try with_reducible rfl)
              try simp only [Act.put, List.getElem_toArray, List.getElem_cons_succ, List.getElem_cons_zero, List.setIfInBounds_toArray, List.set_cons_zero, List.set_cons_succ]
              refine wpAnyH_take (i := 3) (oi := _) (v := undef) rfl (by kernel_rfl) (by kernel_rfl) (by kernel_rfl) (fun _ _ _ h => h) (Or.inr ⟨by kernel_rfl, rfl⟩) (by assumption) ?restr1_1_3
              try simp only [Act.put, List.getElem_toArray, List.getElem_cons_succ, List.getElem_cons_zero, List.setIfInBounds_toArray, List.set_cons_zero, List.set_cons_succ]
              refine wpAnyH_take (i := 4) (oi := _) (v := undef) rfl (by kernel_rfl) (by kernel_rfl) (by kernel_rfl) (fun _ _ _ h => h) (Or.inr ⟨by kernel_rfl, rfl⟩) (by assumption) ?restr1_1_4
              try simp only [Act.put, List.getElem_toArray, List.getElem_cons_succ, List.getElem_cons_zero, List.setIfInBounds_toArray, List.set_cons_zero, List.set_cons_succ]
              refine wpAnyH_take (i := 5) (oi := _) (v := undef) rfl (by kernel_rfl) (by kernel_rfl) (by kernel_rfl) (fun _ _ _ h => h) (Or.inr ⟨by kernel_rfl, rfl⟩) (by assumption) ?restr1_1_5
              try simp only [Act.put, List.getElem_toArray, List.getElem_cons_succ, List.getElem_cons_zero, List.setIfInBounds_toArray, List.set_cons_zero, List.set_cons_succ]
              refine wpAnyH_take (i := 6) (oi := _) (v := undef) rfl (by kernel_rfl) (by kernel_rfl) (by kernel_rfl) (fun _ _ _ h => h) (Or.inr ⟨by kernel_rfl, rfl⟩) (by assumption) ?restr1_1_6
              try simp only [Act.put, List.getElem_toArray, List.getElem_cons_succ, List.getElem_cons_zero, List.setIfInBounds_toArray, List.set_cons_zero, List.set_cons_succ]
              refine wpAnyH_take (i := 7) (oi := _) (v := undef) rfl (by kernel_rfl) (by kernel_rfl) (by kernel_rfl) (fun _ _ _ h => h) (Or.inr ⟨by kernel_rfl, rfl⟩) (by assumption) ?restr1_1_7
              try simp only [Act.put, List.getElem_toArray, List.getElem_cons_succ, List.getElem_cons_zero, List.setIfInBounds_toArray, List.set_cons_zero, List.set_cons_succ]
              refine wpAnyH_take (i := 8) (oi := _) (v := undef) rfl (by kernel_rfl) (by kernel_rfl) (by kernel_rfl) (fun _ _ _ h => h) (Or.inr ⟨by kernel_rfl, rfl⟩) (by assumption) ?restr1_1_8
              try simp only [Act.put, List.getElem_toArray, List.getElem_cons_succ, List.getElem_cons_zero, List.setIfInBounds_toArray, List.set_cons_zero, List.set_cons_succ]
              refine wpAnyH_take (i := 9) (oi := _) (v := undef) rfl (by kernel_rfl) (by kernel_rfl) (by kernel_rfl) (fun _ _ _ h => h) (Or.inr ⟨by kernel_rfl, rfl⟩) (by assumption) ?restr1_1_9
              try simp only [Act.put, List.getElem_toArray, List.getElem_cons_succ, List.getElem_cons_zero, List.setIfInBounds_toArray, List.set_cons_zero, List.set_cons_succ]
              refine wpAnyH_take (i := 10) (oi := _) (v := undef) rfl (by kernel_rfl) (by kernel_rfl) (by kernel_rfl) (fun _ _ _ h => h) (Or.inr ⟨by kernel_rfl, rfl⟩) (by assumption) ?restr1_1_10
              try simp only [Act.put, List.getElem_toArray, List.getElem_cons_succ, List.getElem_cons_zero, List.setIfInBounds_toArray, List.set_cons_zero, List.set_cons_succ]
              refine wpAnyH_take (i := 11) (oi := _) (v := undef) rfl (by kernel_rfl) (by kernel_rfl) (by kernel_rfl) (fun _ _ _ h => h) (Or.inr ⟨by kernel_rfl, rfl⟩) (by assumption) ?restr1_1_11
              try simp only [Act.put, List.getElem_toArray, List.getElem_cons_succ, List.getElem_cons_zero, List.setIfInBounds_toArray, List.set_cons_zero, List.set_cons_succ]
              refine wpAnyH_take (i := 12) (oi := _) (v := undef) rfl (by kernel_rfl) (by kernel_rfl) (by kernel_rfl) (fun _ _ _ h => h) (Or.inr ⟨by kernel_rfl, rfl⟩) (by assumption) ?restr1_1_12
              try simp only [Act.put, List.getElem_toArray, List.getElem_cons_succ, List.getElem_cons_zero, List.setIfInBounds_toArray, List.set_cons_zero, List.set_cons_succ]
              refine wpAnyH_take (i := 13) (oi := _) (v := undef) rfl (by kernel_rfl) (by kernel_rfl) (by kernel_rfl) (fun _ _ _ h => h) (Or.inr ⟨by kernel_rfl, rfl⟩) (by assumption) ?restr1_1_13
              try simp only [Act.put, List.getElem_toArray, List.getElem_cons_succ, List.getElem_cons_zero, List.setIfInBounds_toArray, List.set_cons_zero, List.set_cons_succ]
              refine wpAnyH_take (i := 14) (oi := _) (v := undef) rfl (by kernel_rfl) (by kernel_rfl) (by kernel_rfl) (fun _ _ _ h => h) (Or.inr ⟨by kernel_rfl, rfl⟩) (by assumption) ?restr1_1_14
              try simp only [Act.put, List.getElem_toArray, List.getElem_cons_succ, List.getElem_cons_zero, List.setIfInBounds_toArray, List.set_cons_zero, List.set_cons_succ]
              refine wpAnyH_take (i := 15) (oi := _) (v := undef) rfl (by kernel_rfl) (by kernel_rfl) (by kernel_rfl) (fun _ _ _ h => h) (Or.inr ⟨by kernel_rfl, rfl⟩) (by assumption) ?restr1_1_15
              try simp only [Act.put, List.getElem_toArray, List.getElem_cons_succ, List.getElem_cons_zero, List.setIfInBounds_toArray, List.set_cons_zero, List.set_cons_succ]
              refine wpAnyH_take (i := 16) (oi := _) (v := undef) rfl (by kernel_rfl) (by kernel_rfl) (by kernel_rfl) (fun _ _ _ h => h) (Or.inr ⟨by kernel_rfl, rfl⟩) (by assumption) ?restr1_1_16
              try simp only [Act.put, List.getElem_toArray, List.getElem_cons_succ, List.getElem_cons_zero, List.setIfInBounds_toArray, List.set_cons_zero, List.set_cons_succ]
              refine wpAnyH_take (i := 17) (oi := _) (v := undef) rfl (by kernel_rfl) (by kernel_rfl) (by kernel_rfl) (fun _ _ _ h => h) (Or.inr ⟨by kernel_rfl, rfl⟩) (by assumption) ?restr1_1_17
              try simp only [Act.put, List.getElem_toArray, List.getElem_cons_succ, List.getElem_cons_zero, List.setIfInBounds_toArray, List.set_cons_zero, List.set_cons_succ]
              refine wpAnyH_take (i := 18) (oi := _) (v := undef) rfl (by kernel_rfl) (by kernel_rfl) (by kernel_rfl) (fun _ _ _ h => h) (Or.inr ⟨by kernel_rfl, rfl⟩) (by assumption) ?restr1_1_18
              try simp only [Act.put, List.getElem_toArray, List.getElem_cons_succ, List.getElem_cons_zero, List.setIfInBounds_toArray, List.set_cons_zero, List.set_cons_succ]
              refine wpAnyH_take (i := 19) (oi := _) (v := ?vr1_1_19) rfl (by kernel_rfl) (by kernel_rfl) (by kernel_rfl) ?hqr1_1_19 (Or.inl ⟨by kernel_rfl, ?hyr1_1_19⟩) (by assumption) ?restr1_1_19
              case hqr1_1_19 => exact fun _ _ _ h => h
              case hyr1_1_19 => (intro w hSw; (try dsimp only at hSw); go_simp; try with_reducible rfl)
              try simp only [Act.put, List.getElem_toArray, List.getElem_cons_succ, List.getElem_cons_zero, List.setIfInBounds_toArray, List.set_cons_zero, List.set_cons_succ]
              refine wpAnyH_take (i := 20) (oi := _) (v := ?vr1_1_20) rfl (by kernel_rfl) (by kernel_rfl) (by kernel_rfl) ?hqr1_1_20 (Or.inl ⟨by kernel_rfl, ?hyr1_1_20⟩) (by assumption) ?restr1_1_20
              case hqr1_1_20 => exact fun _ _ _ h => h
              case hyr1_1_20 => (intro w hSw; (try dsimp only at hSw); go_simp; try with_reducible rfl)
              try simp only [Act.put, List.getElem_toArray, List.getElem_cons_succ, List.getElem_cons_zero, List.setIfInBounds_toArray, List.set_cons_zero, List.set_cons_succ]
              refine wpAnyH_done (by kernel_rfl) ?_ _
              refine NoPanic.normal ?_
              go_wp2
              have hS : ∀ V, Bel w5 V → (V.cell? ⟨w.heap.size, 2, none⟩ = some (.int .i64 1) ∧ V.cell? ⟨w.heap.size + 1, 2, none⟩ = some (.int .u64 u) ∧ Bel w5 V) := fun V h => ⟨h.c d2, h.c e2, h⟩
              by_cases hl : 255 < u
              · have hR2 : R = 133 := by rw [HR1.out, if_neg (by omega)]
                refine wp_region_noPanic ?_
                refine wp_region_held_drew (S := (fun V : World => V.cell? ⟨w.heap.size, 2, none⟩ = some (.int .i64 1) ∧ V.cell? ⟨w.heap.size + 1, 2, none⟩ = some (.int .u64 u) ∧ Bel w5 V)) (by kernel_rfl) ?_ (fun hHr2_0 => ?_)
                · (try dsimp only); (first | assumption | exact hS _ (Bel.refl w5).drew.drew | exact hS _ hB6)
                refine wpAnyH_take (i := 0) (oi := _) (v := ?vr2_1_0) rfl (by kernel_rfl) (by kernel_rfl) (by kernel_rfl) ?hqr2_1_0 (Or.inl ⟨by kernel_rfl, ?hyr2_1_0⟩) (by assumption) ?restr2_1_0
                case hqr2_1_0 => exact fun _ _ _ h => h
                case hyr2_1_0 => (intro w hSw; (try dsimp only at hSw); go_simp; try with_reducible rfl)
                try simp only [Act.put, List.getElem_toArray, List.getElem_cons_succ, List.getElem_cons_zero, List.setIfInBounds_toArray, List.set_cons_zero, List.set_cons_succ]
                refine wpAnyH_take (i := 1) (oi := _) (v := ?vr2_1_1) rfl (by kernel_rfl) (by kernel_rfl) (by kernel_rfl) ?hqr2_1_1 (Or.inl ⟨by kernel_rfl, ?hyr2_1_1⟩) (by assumption) ?restr2_1_1
                case hqr2_1_1 => exact fun _ _ _ h => h
                case hyr2_1_1 => (intro w hSw; (try dsimp only at hSw); go_simp; try with_reducible rfl)
                try simp only [Act.put, List.getElem_toArray, List.getElem_cons_succ, List.getElem_cons_zero, List.setIfInBounds_toArray, List.set_cons_zero, List.set_cons_succ]
                refine wpAnyH_take (i := 2) (oi := _) (v := ?vr2_1_2) rfl (by kernel_rfl) (by kernel_rfl) (by kernel_rfl) ?hqr2_1_2 (Or.inl ⟨by kernel_rfl, ?hyr2_1_2⟩) (by assumption) ?restr2_1_2
                case hqr2_1_2 => exact fun _ _ _ h => h
                case hyr2_1_2 => (intro w hSw; (try dsimp only at hSw); go_simp; try with_reducible rfl)
                try simp only [Act.put, List.getElem_toArray, List.getElem_cons_succ, List.getElem_cons_zero, List.setIfInBounds_toArray, List.set_cons_zero, List.set_cons_succ]
                refine wpAnyH_take (i := 3) (oi := _) (v := ?vr2_1_3) rfl (by kernel_rfl) (by kernel_rfl) (by kernel_rfl) ?hqr2_1_3 (Or.inl ⟨by kernel_rfl, ?hyr2_1_3⟩) (by assumption) ?restr2_1_3
                case hqr2_1_3 => exact fun _ _ _ h => h
                case hyr2_1_3 => (intro w hSw; (try dsimp only at hSw); go_simp; try with_reducible rfl)
                try simp only [Act.put, List.getElem_toArray, List.getElem_cons_succ, List.getElem_cons_zero, List.setIfInBounds_toArray, List.set_cons_zero, List.set_cons_succ]
                refine wpAnyH_take (i := 4) (oi := _) (v := ?vr2_1_4) rfl (by kernel_rfl) (by kernel_rfl) (by kernel_rfl) ?hqr2_1_4 (Or.inl ⟨by kernel_rfl, ?hyr2_1_4⟩) (by assumption) ?restr2_1_4
                case hqr2_1_4 => exact fun _ _ _ h => h
                case hyr2_1_4 => (intro w hSw; (try dsimp only at hSw); go_simp; try with_reducible rfl)
                try simp only [Act.put, List.getElem_toArray, List.getElem_cons_succ, List.getElem_cons_zero, List.setIfInBounds_toArray, List.set_cons_zero, List.set_cons_succ]
                refine wpAnyH_take (i := 5) (oi := _) (v := ?vr2_1_5) rfl (by kernel_rfl) (by kernel_rfl) (by kernel_rfl) ?hqr2_1_5 (Or.inl ⟨by kernel_rfl, ?hyr2_1_5⟩) (by assumption) ?restr2_1_5
                case hqr2_1_5 => exact fun _ _ _ h => h
                case hyr2_1_5 => (intro w hSw; (try dsimp only at hSw); go_simp; try with_reducible rfl)
                try simp only [Act.put, List.getElem_toArray, List.getElem_cons_succ, List.getElem_cons_zero, List.setIfInBounds_toArray, List.set_cons_zero, List.set_cons_succ]
                refine wpAnyH_take (i := 6) (oi := _) (v := ?vr2_1_6) rfl (by kernel_rfl) (by kernel_rfl) (by kernel_rfl) ?hqr2_1_6 (Or.inl ⟨by kernel_rfl, ?hyr2_1_6⟩) (by assumption) ?restr2_1_6
                case hqr2_1_6 => exact fun _ _ _ h => h
                case hyr2_1_6 => (intro w hSw; (try dsimp only at hSw); go_simp; try with_reducible rfl)
                try simp only [Act.put, List.getElem_toArray, List.getElem_cons_succ, List.getElem_cons_zero, List.setIfInBounds_toArray, List.set_cons_zero, List.set_cons_succ]
                refine wpAnyH_ready (rs := [7]) (by kernel_rfl) (by simp) ?_
                refine AllReadyH.cons (o := _) rfl (fun K hK => ?_) AllReadyH.nil
                go_simp
                (go_at_call 59; refine (HLE.out _).mono ?_; rintro e w6 ⟨rfl, hb6⟩; have hB6 : Bel w5 w6 := Bel.then_ (Bel.refl w5).drew.drew hb6)
                try (go_wp2_with fail)
                refine hK.out _ _ ?_ (fun hHr2_1 => ?_)
                · (try dsimp only); (first | assumption | exact hS _ (Bel.refl w5).drew.drew | exact hS _ hB6)
                clear hK K hHr2_0
                try simp only [Act.put, List.getElem_toArray, List.getElem_cons_succ, List.getElem_cons_zero, List.setIfInBounds_toArray, List.set_cons_zero, List.set_cons_succ]
                refine wpAnyH_take (i := 8) (oi := _) (v := ?vr2_1_8) rfl (by kernel_rfl) (by kernel_rfl) (by kernel_rfl) ?hqr2_1_8 (Or.inl ⟨by kernel_rfl, ?hyr2_1_8⟩) (by assumption) ?restr2_1_8
                case hqr2_1_8 => exact fun _ _ _ h => h
                case hyr2_1_8 => (intro w hSw; (try dsimp only at hSw); go_simp; try with_reducible rfl)
                try simp only [Act.put, List.getElem_toArray, List.getElem_cons_succ, List.getElem_cons_zero, List.setIfInBounds_toArray, List.set_cons_zero, List.set_cons_succ]
                refine wpAnyH_take (i := 9) (oi := _) (v := ?vr2_1_9) rfl (by kernel_rfl) (by kernel_rfl) (by kernel_rfl) ?hqr2_1_9 (Or.inl ⟨by kernel_rfl, ?hyr2_1_9⟩) (by assumption) ?restr2_1_9
                case hqr2_1_9 => exact fun _ _ _ h => h
                case hyr2_1_9 => (intro w hSw; (try dsimp only at hSw); go_simp; try with_reducible rfl)
                try simp only [Act.put, List.getElem_toArray, List.getElem_cons_succ, List.getElem_cons_zero, List.setIfInBounds_toArray, List.set_cons_zero, List.set_cons_succ]
                refine wpAnyH_take (i := 10) (oi := _) (v := ?vr2_1_10) rfl (by kernel_rfl) (by kernel_rfl) (by kernel_rfl) ?hqr2_1_10 (Or.inl ⟨by kernel_rfl, ?hyr2_1_10⟩) (by assumption) ?restr2_1_10
                case hqr2_1_10 => exact fun _ _ _ h => h
                case hyr2_1_10 => (intro w hSw; (try dsimp only at hSw); go_simp; try with_reducible rfl)
                try simp only [Act.put, List.getElem_toArray, List.getElem_cons_succ, List.getElem_cons_zero, List.setIfInBounds_toArray, List.set_cons_zero, List.set_cons_succ]
                refine wpAnyH_done (by kernel_rfl) ?_ _
                refine NoPanic.normal ?_
                go_wp2
                go_ret
                exact ⟨by rw [hR2]; rfl, hB5.then_ hB6⟩
              · have hlb : decide (255 < u) = false := by simp; omega
                have hR2 : R = 0 := by rw [HR1.out, if_pos (by omega)]
                refine wp_region_noPanic ?_
                refine wp_region_held_drew (S := (fun V : World => V.cell? ⟨w.heap.size, 2, none⟩ = some (.int .i64 1) ∧ V.cell? ⟨w.heap.size + 1, 2, none⟩ = some (.int .u64 u) ∧ Bel w5 V)) (by kernel_rfl) ?_ (fun hHr3_0 => ?_)
                · (try dsimp only); (first | assumption | exact hS _ (Bel.refl w5).drew.drew | exact hS _ hB6)
                refine wpAnyH_take (i := 0) (oi := _) (v := ?vr3_1_0) rfl (by kernel_rfl) (by kernel_rfl) (by kernel_rfl) ?hqr3_1_0 (Or.inl ⟨by kernel_rfl, ?hyr3_1_0⟩) (by assumption) ?restr3_1_0
                case hqr3_1_0 => exact fun _ _ _ h => h
                case hyr3_1_0 => (intro w hSw; (try dsimp only at hSw); go_simp; try with_reducible rfl)
                try simp only [Act.put, List.getElem_toArray, List.getElem_cons_succ, List.getElem_cons_zero, List.setIfInBounds_toArray, List.set_cons_zero, List.set_cons_succ]
                refine wpAnyH_take (i := 1) (oi := _) (v := ?vr3_1_1) rfl (by kernel_rfl) (by kernel_rfl) (by kernel_rfl) ?hqr3_1_1 (Or.inl ⟨by kernel_rfl, ?hyr3_1_1⟩) (by assumption) ?restr3_1_1
                case hqr3_1_1 => exact fun _ _ _ h => h
                case hyr3_1_1 => (intro w hSw; (try dsimp only at hSw); go_simp; try with_reducible rfl)
                try simp only [Act.put, List.getElem_toArray, List.getElem_cons_succ, List.getElem_cons_zero, List.setIfInBounds_toArray, List.set_cons_zero, List.set_cons_succ]
                refine wpAnyH_take (i := 2) (oi := _) (v := ?vr3_1_2) rfl (by kernel_rfl) (by kernel_rfl) (by kernel_rfl) ?hqr3_1_2 (Or.inl ⟨by kernel_rfl, ?hyr3_1_2⟩) (by assumption) ?restr3_1_2
                case hqr3_1_2 => exact fun _ _ _ h => h
                case hyr3_1_2 => (intro w hSw; (try dsimp only at hSw); go_simp; try with_reducible rfl)
                try simp only [Act.put, List.getElem_toArray, List.getElem_cons_succ, List.getElem_cons_zero, List.setIfInBounds_toArray, List.set_cons_zero, List.set_cons_succ]
                refine wpAnyH_take (i := 3) (oi := _) (v := ?vr3_1_3) rfl (by kernel_rfl) (by kernel_rfl) (by kernel_rfl) ?hqr3_1_3 (Or.inl ⟨by kernel_rfl, ?hyr3_1_3⟩) (by assumption) ?restr3_1_3
                case hqr3_1_3 => exact fun _ _ _ h => h
                case hyr3_1_3 => (intro w hSw; (try dsimp only at hSw); go_simp; try with_reducible rfl)
                try simp only [Act.put, List.getElem_toArray, List.getElem_cons_succ, List.getElem_cons_zero, List.setIfInBounds_toArray, List.set_cons_zero, List.set_cons_succ]
                refine wpAnyH_take (i := 4) (oi := _) (v := ?vr3_1_4) rfl (by kernel_rfl) (by kernel_rfl) (by kernel_rfl) ?hqr3_1_4 (Or.inl ⟨by kernel_rfl, ?hyr3_1_4⟩) (by assumption) ?restr3_1_4
                case hqr3_1_4 => exact fun _ _ _ h => h
                case hyr3_1_4 => (intro w hSw; (try dsimp only at hSw); go_simp; try with_reducible rfl)
                try simp only [Act.put, List.getElem_toArray, List.getElem_cons_succ, List.getElem_cons_zero, List.setIfInBounds_toArray, List.set_cons_zero, List.set_cons_succ]
                refine wpAnyH_take (i := 5) (oi := _) (v := ?vr3_1_5) rfl (by kernel_rfl) (by kernel_rfl) (by kernel_rfl) ?hqr3_1_5 (Or.inl ⟨by kernel_rfl, ?hyr3_1_5⟩) (by assumption) ?restr3_1_5
                case hqr3_1_5 => exact fun _ _ _ h => h
                case hyr3_1_5 => (intro w hSw; (try dsimp only at hSw); go_simp; try with_reducible rfl)
                try simp only [Act.put, List.getElem_toArray, List.getElem_cons_succ, List.getElem_cons_zero, List.setIfInBounds_toArray, List.set_cons_zero, List.set_cons_succ]
                refine wpAnyH_take (i := 6) (oi := _) (v := ?vr3_1_6) rfl (by kernel_rfl) (by kernel_rfl) (by kernel_rfl) ?hqr3_1_6 (Or.inl ⟨by kernel_rfl, ?hyr3_1_6⟩) (by assumption) ?restr3_1_6
                case hqr3_1_6 => exact fun _ _ _ h => h
                case hyr3_1_6 => (intro w hSw; (try dsimp only at hSw); go_simp; try with_reducible rfl)
                try simp only [Act.put, List.getElem_toArray, List.getElem_cons_succ, List.getElem_cons_zero, List.setIfInBounds_toArray, List.set_cons_zero, List.set_cons_succ]
                refine wpAnyH_ready (rs := [7]) (by kernel_rfl) (by simp) ?_
                refine AllReadyH.cons (o := _) rfl (fun K hK => ?_) AllReadyH.nil
                go_simp
                (go_at_call 59; refine (HLE.out _).mono ?_; rintro e w6 ⟨rfl, hb6⟩; have hB6 : Bel w5 w6 := Bel.then_ (Bel.refl w5).drew.drew hb6)
                try (go_wp2_with fail)
                refine hK.out _ _ ?_ (fun hHr3_1 => ?_)
                · (try dsimp only); (first | assumption | exact hS _ (Bel.refl w5).drew.drew | exact hS _ hB6)
                clear hK K hHr3_0
                try simp only [Act.put, List.getElem_toArray, List.getElem_cons_succ, List.getElem_cons_zero, List.setIfInBounds_toArray, List.set_cons_zero, List.set_cons_succ]
                refine wpAnyH_take (i := 8) (oi := _) (v := ?vr3_1_8) rfl (by kernel_rfl) (by kernel_rfl) (by kernel_rfl) ?hqr3_1_8 (Or.inl ⟨by kernel_rfl, ?hyr3_1_8⟩) (by assumption) ?restr3_1_8
                case hqr3_1_8 => exact fun _ _ _ h => h
                case hyr3_1_8 => (intro w hSw; (try dsimp only at hSw); go_simp; try with_reducible rfl)
                try simp only [Act.put, List.getElem_toArray, List.getElem_cons_succ, List.getElem_cons_zero, List.setIfInBounds_toArray, List.set_cons_zero, List.set_cons_succ]
                refine wpAnyH_take (i := 9) (oi := _) (v := ?vr3_1_9) rfl (by kernel_rfl) (by kernel_rfl) (by kernel_rfl) ?hqr3_1_9 (Or.inl ⟨by kernel_rfl, ?hyr3_1_9⟩) (by assumption) ?restr3_1_9
                case hqr3_1_9 => exact fun _ _ _ h => h
                case hyr3_1_9 => (intro w hSw; (try dsimp only at hSw); go_simp; try with_reducible rfl)
                try simp only [Act.put, List.getElem_toArray, List.getElem_cons_succ, List.getElem_cons_zero, List.setIfInBounds_toArray, List.set_cons_zero, List.set_cons_succ]
                refine wpAnyH_take (i := 10) (oi := _) (v := ?vr3_1_10) rfl (by kernel_rfl) (by kernel_rfl) (by kernel_rfl) ?hqr3_1_10 (Or.inl ⟨by kernel_rfl, ?hyr3_1_10⟩) (by assumption) ?restr3_1_10
                case hqr3_1_10 => exact fun _ _ _ h => h
                case hyr3_1_10 => (intro w hSw; (try dsimp only at hSw); go_simp; try with_reducible rfl)
                try simp only [Act.put, List.getElem_toArray, List.getElem_cons_succ, List.getElem_cons_zero, List.setIfInBounds_toArray, List.set_cons_zero, List.set_cons_succ]
                refine wpAnyH_done (by kernel_rfl) ?_ _
                refine NoPanic.normal ?_
                go_wp2
                go_ret
                exact ⟨by rw [hR2]; rfl, hB5.then_ hB6⟩
            · simp only [mostI] at HLE HR1
              go_enter Tryz.func24, Tryz.ntmps24
              go_wp2_with (first | (go_at_call 56; refine (HCO.out _).mono ?_; rintro e w4 ⟨rfl, hb4⟩; obtain ⟨⟨a0, a1, a2, a3, c0, c1, c2, c3⟩, hB4⟩ := HCL.out _ hb4) | (go_at_call 57; refine (HCH.out _).mono ?_; rintro e w5 ⟨rfl, hb5⟩; obtain ⟨⟨d0, d1, d2, d3, e0, e1, e2, e3⟩, hB5⟩ := HCL.out _ (hb4.then_ hb5)))
              refine wp_region_noPanic ?_
              refine wp_region_held_drew (S := (fun V : World => Bel w5 V)) (by kernel_rfl) ?_ (fun hHr4_0 => ?_)
              · (try dsimp only); (first | assumption | exact (Bel.refl w5).drew)
              refine wpAnyH_take (i := 0) (oi := _) (v := ?vr4_1_0) rfl (by kernel_rfl) (by kernel_rfl) (by kernel_rfl) ?hqr4_1_0 (Or.inl ⟨by kernel_rfl, ?hyr4_1_0⟩) (by assumption) ?restr4_1_0
              case hqr4_1_0 => exact fun _ _ _ h => h
              case hyr4_1_0 => (intro w hSw; (try dsimp only at hSw); go_simp; try with_reducible rfl)
              try simp only [Act.put, List.getElem_toArray, List.getElem_cons_succ, List.getElem_cons_zero, List.setIfInBounds_toArray, List.set_cons_zero, List.set_cons_succ]
              refine wpAnyH_take (i := 1) (oi := _) (v := ?vr4_1_1) rfl (by kernel_rfl) (by kernel_rfl) (by kernel_rfl) ?hqr4_1_1 (Or.inl ⟨by kernel_rfl, ?hyr4_1_1⟩) (by assumption) ?restr4_1_1
              case hqr4_1_1 => exact fun _ _ _ h => h
              case hyr4_1_1 => (intro w hSw; (try dsimp only at hSw); go_simp; try with_reducible rfl)
              try simp only [Act.put, List.getElem_toArray, List.getElem_cons_succ, List.getElem_cons_zero, List.setIfInBounds_toArray, List.set_cons_zero, List.set_cons_succ]
              refine wpAnyH_take (i := 2) (oi := _) (v := ?vr4_1_2) rfl (by kernel_rfl) (by kernel_rfl) (by kernel_rfl) ?hqr4_1_2 (Or.inl ⟨by kernel_rfl, ?hyr4_1_2⟩) (by assumption) ?restr4_1_2
              case hqr4_1_2 => exact fun _ _ _ h => h
              case hyr4_1_2 => (intro w hSw; (try dsimp only at hSw); go_simp; try with_reducible rfl)
              try simp only [Act.put, List.getElem_toArray, List.getElem_cons_succ, List.getElem_cons_zero, List.setIfInBounds_toArray, List.set_cons_zero, List.set_cons_succ]
              refine wpAnyH_take (i := 3) (oi := _) (v := undef) rfl (by kernel_rfl) (by kernel_rfl) (by kernel_rfl) (fun _ _ _ h => h) (Or.inr ⟨by kernel_rfl, rfl⟩) (by assumption) ?restr4_1_3
              try simp only [Act.put, List.getElem_toArray, List.getElem_cons_succ, List.getElem_cons_zero, List.setIfInBounds_toArray, List.set_cons_zero, List.set_cons_succ]
              refine wpAnyH_take (i := 4) (oi := _) (v := undef) rfl (by kernel_rfl) (by kernel_rfl) (by kernel_rfl) (fun _ _ _ h => h) (Or.inr ⟨by kernel_rfl, rfl⟩) (by assumption) ?restr4_1_4
              try simp only [Act.put, List.getElem_toArray, List.getElem_cons_succ, List.getElem_cons_zero, List.setIfInBounds_toArray, List.set_cons_zero, List.set_cons_succ]
              refine wpAnyH_take (i := 5) (oi := _) (v := undef) rfl (by kernel_rfl) (by kernel_rfl) (by kernel_rfl) (fun _ _ _ h => h) (Or.inr ⟨by kernel_rfl, rfl⟩) (by assumption) ?restr4_1_5
              try simp only [Act.put, List.getElem_toArray, List.getElem_cons_succ, List.getElem_cons_zero, List.setIfInBounds_toArray, List.set_cons_zero, List.set_cons_succ]
              refine wpAnyH_take (i := 6) (oi := _) (v := undef) rfl (by kernel_rfl) (by kernel_rfl) (by kernel_rfl) (fun _ _ _ h => h) (Or.inr ⟨by kernel_rfl, rfl⟩) (by assumption) ?restr4_1_6
              try simp only [Act.put, List.getElem_toArray, List.getElem_cons_succ, List.getElem_cons_zero, List.setIfInBounds_toArray, List.set_cons_zero, List.set_cons_succ]
              refine wpAnyH_take (i := 7) (oi := _) (v := undef) rfl (by kernel_rfl) (by kernel_rfl) (by kernel_rfl) (fun _ _ _ h => h) (Or.inr ⟨by kernel_rfl, rfl⟩) (by assumption) ?restr4_1_7
              try simp only [Act.put, List.getElem_toArray, List.getElem_cons_succ, List.getElem_cons_zero, List.setIfInBounds_toArray, List.set_cons_zero, List.set_cons_succ]
              refine wpAnyH_take (i := 8) (oi := _) (v := undef) rfl (by kernel_rfl) (by kernel_rfl) (by kernel_rfl) (fun _ _ _ h => h) (Or.inr ⟨by kernel_rfl, rfl⟩) (by assumption) ?restr4_1_8
              try simp only [Act.put, List.getElem_toArray, List.getElem_cons_succ, List.getElem_cons_zero, List.setIfInBounds_toArray, List.set_cons_zero, List.set_cons_succ]
              refine wpAnyH_take (i := 9) (oi := _) (v := undef) rfl (by kernel_rfl) (by kernel_rfl) (by kernel_rfl) (fun _ _ _ h => h) (Or.inr ⟨by kernel_rfl, rfl⟩) (by assumption) ?restr4_1_9
              try simp only [Act.put, List.getElem_toArray, List.getElem_cons_succ, List.getElem_cons_zero, List.setIfInBounds_toArray, List.set_cons_zero, List.set_cons_succ]
              refine wpAnyH_take (i := 10) (oi := _) (v := undef) rfl (by kernel_rfl) (by kernel_rfl) (by kernel_rfl) (fun _ _ _ h => h) (Or.inr ⟨by kernel_rfl, rfl⟩) (by assumption) ?restr4_1_10
              try simp only [Act.put, List.getElem_toArray, List.getElem_cons_succ, List.getElem_cons_zero, List.setIfInBounds_toArray, List.set_cons_zero, List.set_cons_succ]
              refine wpAnyH_take (i := 11) (oi := _) (v := undef) rfl (by kernel_rfl) (by kernel_rfl) (by kernel_rfl) (fun _ _ _ h => h) (Or.inr ⟨by kernel_rfl, rfl⟩) (by assumption) ?restr4_1_11
              try simp only [Act.put, List.getElem_toArray, List.getElem_cons_succ, List.getElem_cons_zero, List.setIfInBounds_toArray, List.set_cons_zero, List.set_cons_succ]
              refine wpAnyH_take (i := 12) (oi := _) (v := undef) rfl (by kernel_rfl) (by kernel_rfl) (by kernel_rfl) (fun _ _ _ h => h) (Or.inr ⟨by kernel_rfl, rfl⟩) (by assumption) ?restr4_1_12
              try simp only [Act.put, List.getElem_toArray, List.getElem_cons_succ, List.getElem_cons_zero, List.setIfInBounds_toArray, List.set_cons_zero, List.set_cons_succ]
              refine wpAnyH_take (i := 13) (oi := _) (v := undef) rfl (by kernel_rfl) (by kernel_rfl) (by kernel_rfl) (fun _ _ _ h => h) (Or.inr ⟨by kernel_rfl, rfl⟩) (by assumption) ?restr4_1_13
              try simp only [Act.put, List.getElem_toArray, List.getElem_cons_succ, List.getElem_cons_zero, List.setIfInBounds_toArray, List.set_cons_zero, List.set_cons_succ]
              refine wpAnyH_take (i := 14) (oi := _) (v := undef) rfl (by kernel_rfl) (by kernel_rfl) (by kernel_rfl) (fun _ _ _ h => h) (Or.inr ⟨by kernel_rfl, rfl⟩) (by assumption) ?restr4_1_14
              try simp only [Act.put, List.getElem_toArray, List.getElem_cons_succ, List.getElem_cons_zero, List.setIfInBounds_toArray, List.set_cons_zero, List.set_cons_succ]
              refine wpAnyH_take (i := 15) (oi := _) (v := undef) rfl (by kernel_rfl) (by kernel_rfl) (by kernel_rfl) (fun _ _ _ h => h) (Or.inr ⟨by kernel_rfl, rfl⟩) (by assumption) ?restr4_1_15
              try simp only [Act.put, List.getElem_toArray, List.getElem_cons_succ, List.getElem_cons_zero, List.setIfInBounds_toArray, List.set_cons_zero, List.set_cons_succ]
              refine wpAnyH_take (i := 16) (oi := _) (v := undef) rfl (by kernel_rfl) (by kernel_rfl) (by kernel_rfl) (fun _ _ _ h => h) (Or.inr ⟨by kernel_rfl, rfl⟩) (by assumption) ?restr4_1_16
              try simp only [Act.put, List.getElem_toArray, List.getElem_cons_succ, List.getElem_cons_zero, List.setIfInBounds_toArray, List.set_cons_zero, List.set_cons_succ]
              refine wpAnyH_take (i := 17) (oi := _) (v := undef) rfl (by kernel_rfl) (by kernel_rfl) (by kernel_rfl) (fun _ _ _ h => h) (Or.inr ⟨by kernel_rfl, rfl⟩) (by assumption) ?restr4_1_17
              try simp only [Act.put, List.getElem_toArray, List.getElem_cons_succ, List.getElem_cons_zero, List.setIfInBounds_toArray, List.set_cons_zero, List.set_cons_succ]
              refine wpAnyH_take (i := 18) (oi := _) (v := undef) rfl (by kernel_rfl) (by kernel_rfl) (by kernel_rfl) (fun _ _ _ h => h) (Or.inr ⟨by kernel_rfl, rfl⟩) (by assumption) ?restr4_1_18
              try simp only [Act.put, List.getElem_toArray, List.getElem_cons_succ, List.getElem_cons_zero, List.setIfInBounds_toArray, List.set_cons_zero, List.set_cons_succ]
              refine wpAnyH_take (i := 19) (oi := _) (v := ?vr4_1_19) rfl (by kernel_rfl) (by kernel_rfl) (by kernel_rfl) ?hqr4_1_19 (Or.inl ⟨by kernel_rfl, ?hyr4_1_19⟩) (by assumption) ?restr4_1_19
              case hqr4_1_19 => exact fun _ _ _ h => h
              case hyr4_1_19 => (intro w hSw; (try dsimp only at hSw); go_simp; try with_reducible rfl)
              try simp only [Act.put, List.getElem_toArray, List.getElem_cons_succ, List.getElem_cons_zero, List.setIfInBounds_toArray, List.set_cons_zero, List.set_cons_succ]
              refine wpAnyH_take (i := 20) (oi := _) (v := ?vr4_1_20) rfl (by kernel_rfl) (by kernel_rfl) (by kernel_rfl) ?hqr4_1_20 (Or.inl ⟨by kernel_rfl, ?hyr4_1_20⟩) (by assumption) ?restr4_1_20
              case hqr4_1_20 => exact fun _ _ _ h => h
              case hyr4_1_20 => (intro w hSw; (try dsimp only at hSw); go_simp; try with_reducible rfl)
              try simp only [Act.put, List.getElem_toArray, List.getElem_cons_succ, List.getElem_cons_zero, List.setIfInBounds_toArray, List.set_cons_zero, List.set_cons_succ]
              refine wpAnyH_done (by kernel_rfl) ?_ _
              refine NoPanic.normal ?_
              go_wp2
              have hS : ∀ V, Bel w5 V → (V.cell? ⟨w.heap.size, 2, none⟩ = some (.int .i64 2) ∧ V.cell? ⟨w.heap.size + 1, 2, none⟩ = some (.int .u64 u) ∧ Bel w5 V) := fun V h => ⟨h.c d2, h.c e2, h⟩
              by_cases hl : 65535 < u
              · have hR2 : R = 133 := by rw [HR1.out, if_neg (by omega)]
                refine wp_region_noPanic ?_
                refine wp_region_held_drew (S := (fun V : World => V.cell? ⟨w.heap.size, 2, none⟩ = some (.int .i64 2) ∧ V.cell? ⟨w.heap.size + 1, 2, none⟩ = some (.int .u64 u) ∧ Bel w5 V)) (by kernel_rfl) ?_ (fun hHr5_0 => ?_)
                · (try dsimp only); (first | assumption | exact hS _ (Bel.refl w5).drew.drew | exact hS _ hB6)
                refine wpAnyH_take (i := 0) (oi := _) (v := ?vr5_1_0) rfl (by kernel_rfl) (by kernel_rfl) (by kernel_rfl) ?hqr5_1_0 (Or.inl ⟨by kernel_rfl, ?hyr5_1_0⟩) (by assumption) ?restr5_1_0
                case hqr5_1_0 => exact fun _ _ _ h => h
                case hyr5_1_0 => (intro w hSw; (try dsimp only at hSw); go_simp; try with_reducible rfl)
                try simp only [Act.put, List.getElem_toArray, List.getElem_cons_succ, List.getElem_cons_zero, List.setIfInBounds_toArray, List.set_cons_zero, List.set_cons_succ]
                refine wpAnyH_take (i := 1) (oi := _) (v := ?vr5_1_1) rfl (by kernel_rfl) (by kernel_rfl) (by kernel_rfl) ?hqr5_1_1 (Or.inl ⟨by kernel_rfl, ?hyr5_1_1⟩) (by assumption) ?restr5_1_1
                case hqr5_1_1 => exact fun _ _ _ h => h
                case hyr5_1_1 => (intro w hSw; (try dsimp only at hSw); go_simp; try with_reducible rfl)
                try simp only [Act.put, List.getElem_toArray, List.getElem_cons_succ, List.getElem_cons_zero, List.setIfInBounds_toArray, List.set_cons_zero, List.set_cons_succ]
                refine wpAnyH_take (i := 2) (oi := _) (v := ?vr5_1_2) rfl (by kernel_rfl) (by kernel_rfl) (by kernel_rfl) ?hqr5_1_2 (Or.inl ⟨by kernel_rfl, ?hyr5_1_2⟩) (by assumption) ?restr5_1_2
                case hqr5_1_2 => exact fun _ _ _ h => h
                case hyr5_1_2 => (intro w hSw; (try dsimp only at hSw); go_simp; try with_reducible rfl)
                try simp only [Act.put, List.getElem_toArray, List.getElem_cons_succ, List.getElem_cons_zero, List.setIfInBounds_toArray, List.set_cons_zero, List.set_cons_succ]
                refine wpAnyH_take (i := 3) (oi := _) (v := ?vr5_1_3) rfl (by kernel_rfl) (by kernel_rfl) (by kernel_rfl) ?hqr5_1_3 (Or.inl ⟨by kernel_rfl, ?hyr5_1_3⟩) (by assumption) ?restr5_1_3
                case hqr5_1_3 => exact fun _ _ _ h => h
                case hyr5_1_3 => (intro w hSw; (try dsimp only at hSw); go_simp; try with_reducible rfl)
                try simp only [Act.put, List.getElem_toArray, List.getElem_cons_succ, List.getElem_cons_zero, List.setIfInBounds_toArray, List.set_cons_zero, List.set_cons_succ]
                refine wpAnyH_take (i := 4) (oi := _) (v := ?vr5_1_4) rfl (by kernel_rfl) (by kernel_rfl) (by kernel_rfl) ?hqr5_1_4 (Or.inl ⟨by kernel_rfl, ?hyr5_1_4⟩) (by assumption) ?restr5_1_4
                case hqr5_1_4 => exact fun _ _ _ h => h
                case hyr5_1_4 => (intro w hSw; (try dsimp only at hSw); go_simp; try with_reducible rfl)
                try simp only [Act.put, List.getElem_toArray, List.getElem_cons_succ, List.getElem_cons_zero, List.setIfInBounds_toArray, List.set_cons_zero, List.set_cons_succ]
                refine wpAnyH_take (i := 5) (oi := _) (v := ?vr5_1_5) rfl (by kernel_rfl) (by kernel_rfl) (by kernel_rfl) ?hqr5_1_5 (Or.inl ⟨by kernel_rfl, ?hyr5_1_5⟩) (by assumption) ?restr5_1_5
                case hqr5_1_5 => exact fun _ _ _ h => h
                case hyr5_1_5 => (intro w hSw; (try dsimp only at hSw); go_simp; try with_reducible rfl)
                try simp only [Act.put, List.getElem_toArray, List.getElem_cons_succ, List.getElem_cons_zero, List.setIfInBounds_toArray, List.set_cons_zero, List.set_cons_succ]
                refine wpAnyH_take (i := 6) (oi := _) (v := ?vr5_1_6) rfl (by kernel_rfl) (by kernel_rfl) (by kernel_rfl) ?hqr5_1_6 (Or.inl ⟨by kernel_rfl, ?hyr5_1_6⟩) (by assumption) ?restr5_1_6
                case hqr5_1_6 => exact fun _ _ _ h => h
                case hyr5_1_6 => (intro w hSw; (try dsimp only at hSw); go_simp; try with_reducible rfl)
                try simp only [Act.put, List.getElem_toArray, List.getElem_cons_succ, List.getElem_cons_zero, List.setIfInBounds_toArray, List.set_cons_zero, List.set_cons_succ]
                refine wpAnyH_ready (rs := [7]) (by kernel_rfl) (by simp) ?_
                refine AllReadyH.cons (o := _) rfl (fun K hK => ?_) AllReadyH.nil
                go_simp
                (go_at_call 59; refine (HLE.out _).mono ?_; rintro e w6 ⟨rfl, hb6⟩; have hB6 : Bel w5 w6 := Bel.then_ (Bel.refl w5).drew.drew hb6)
                try (go_wp2_with fail)
                refine hK.out _ _ ?_ (fun hHr5_1 => ?_)
                · (try dsimp only); (first | assumption | exact hS _ (Bel.refl w5).drew.drew | exact hS _ hB6)
                clear hK K hHr5_0
                try simp only [Act.put, List.getElem_toArray, List.getElem_cons_succ, List.getElem_cons_zero, List.setIfInBounds_toArray, List.set_cons_zero, List.set_cons_succ]
                refine wpAnyH_take (i := 8) (oi := _) (v := ?vr5_1_8) rfl (by kernel_rfl) (by kernel_rfl) (by kernel_rfl) ?hqr5_1_8 (Or.inl ⟨by kernel_rfl, ?hyr5_1_8⟩) (by assumption) ?restr5_1_8
                case hqr5_1_8 => exact fun _ _ _ h => h
                case hyr5_1_8 => (intro w hSw; (try dsimp only at hSw); go_simp; try with_reducible rfl)
                try simp only [Act.put, List.getElem_toArray, List.getElem_cons_succ, List.getElem_cons_zero, List.setIfInBounds_toArray, List.set_cons_zero, List.set_cons_succ]
                refine wpAnyH_take (i := 9) (oi := _) (v := ?vr5_1_9) rfl (by kernel_rfl) (by kernel_rfl) (by kernel_rfl) ?hqr5_1_9 (Or.inl ⟨by kernel_rfl, ?hyr5_1_9⟩) (by assumption) ?restr5_1_9
                case hqr5_1_9 => exact fun _ _ _ h => h
                case hyr5_1_9 => (intro w hSw; (try dsimp only at hSw); go_simp; try with_reducible rfl)
                try simp only [Act.put, List.getElem_toArray, List.getElem_cons_succ, List.getElem_cons_zero, List.setIfInBounds_toArray, List.set_cons_zero, List.set_cons_succ]
                refine wpAnyH_take (i := 10) (oi := _) (v := ?vr5_1_10) rfl (by kernel_rfl) (by kernel_rfl) (by kernel_rfl) ?hqr5_1_10 (Or.inl ⟨by kernel_rfl, ?hyr5_1_10⟩) (by assumption) ?restr5_1_10
                case hqr5_1_10 => exact fun _ _ _ h => h
                case hyr5_1_10 => (intro w hSw; (try dsimp only at hSw); go_simp; try with_reducible rfl)
                try simp only [Act.put, List.getElem_toArray, List.getElem_cons_succ, List.getElem_cons_zero, List.setIfInBounds_toArray, List.set_cons_zero, List.set_cons_succ]
                refine wpAnyH_done (by kernel_rfl) ?_ _
                refine NoPanic.normal ?_
                go_wp2
                go_ret
                exact ⟨by rw [hR2]; rfl, hB5.then_ hB6⟩
              · have hlb : decide (65535 < u) = false := by simp; omega
                have hR2 : R = 0 := by rw [HR1.out, if_pos (by omega)]
                refine wp_region_noPanic ?_
                refine wp_region_held_drew (S := (fun V : World => V.cell? ⟨w.heap.size, 2, none⟩ = some (.int .i64 2) ∧ V.cell? ⟨w.heap.size + 1, 2, none⟩ = some (.int .u64 u) ∧ Bel w5 V)) (by kernel_rfl) ?_ (fun hHr6_0 => ?_)
                · (try dsimp only); (first | assumption | exact hS _ (Bel.refl w5).drew.drew | exact hS _ hB6)
                refine wpAnyH_take (i := 0) (oi := _) (v := ?vr6_1_0) rfl (by kernel_rfl) (by kernel_rfl) (by kernel_rfl) ?hqr6_1_0 (Or.inl ⟨by kernel_rfl, ?hyr6_1_0⟩) (by assumption) ?restr6_1_0
                case hqr6_1_0 => exact fun _ _ _ h => h
                case hyr6_1_0 => (intro w hSw; (try dsimp only at hSw); go_simp; try with_reducible rfl)
                try simp only [Act.put, List.getElem_toArray, List.getElem_cons_succ, List.getElem_cons_zero, List.setIfInBounds_toArray, List.set_cons_zero, List.set_cons_succ]
                refine wpAnyH_take (i := 1) (oi := _) (v := ?vr6_1_1) rfl (by kernel_rfl) (by kernel_rfl) (by kernel_rfl) ?hqr6_1_1 (Or.inl ⟨by kernel_rfl, ?hyr6_1_1⟩) (by assumption) ?restr6_1_1
                case hqr6_1_1 => exact fun _ _ _ h => h
                case hyr6_1_1 => (intro w hSw; (try dsimp only at hSw); go_simp; try with_reducible rfl)
                try simp only [Act.put, List.getElem_toArray, List.getElem_cons_succ, List.getElem_cons_zero, List.setIfInBounds_toArray, List.set_cons_zero, List.set_cons_succ]
                refine wpAnyH_take (i := 2) (oi := _) (v := ?vr6_1_2) rfl (by kernel_rfl) (by kernel_rfl) (by kernel_rfl) ?hqr6_1_2 (Or.inl ⟨by kernel_rfl, ?hyr6_1_2⟩) (by assumption) ?restr6_1_2
                case hqr6_1_2 => exact fun _ _ _ h => h
                case hyr6_1_2 => (intro w hSw; (try dsimp only at hSw); go_simp; try with_reducible rfl)
                try simp only [Act.put, List.getElem_toArray, List.getElem_cons_succ, List.getElem_cons_zero, List.setIfInBounds_toArray, List.set_cons_zero, List.set_cons_succ]
                refine wpAnyH_take (i := 3) (oi := _) (v := ?vr6_1_3) rfl (by kernel_rfl) (by kernel_rfl) (by kernel_rfl) ?hqr6_1_3 (Or.inl ⟨by kernel_rfl, ?hyr6_1_3⟩) (by assumption) ?restr6_1_3
                case hqr6_1_3 => exact fun _ _ _ h => h
                case hyr6_1_3 => (intro w hSw; (try dsimp only at hSw); go_simp; try with_reducible rfl)
                try simp only [Act.put, List.getElem_toArray, List.getElem_cons_succ, List.getElem_cons_zero, List.setIfInBounds_toArray, List.set_cons_zero, List.set_cons_succ]
                refine wpAnyH_take (i := 4) (oi := _) (v := ?vr6_1_4) rfl (by kernel_rfl) (by kernel_rfl) (by kernel_rfl) ?hqr6_1_4 (Or.inl ⟨by kernel_rfl, ?hyr6_1_4⟩) (by assumption) ?restr6_1_4
                case hqr6_1_4 => exact fun _ _ _ h => h
                case hyr6_1_4 => (intro w hSw; (try dsimp only at hSw); go_simp; try with_reducible rfl)
                try simp only [Act.put, List.getElem_toArray, List.getElem_cons_succ, List.getElem_cons_zero, List.setIfInBounds_toArray, List.set_cons_zero, List.set_cons_succ]
                refine wpAnyH_take (i := 5) (oi := _) (v := ?vr6_1_5) rfl (by kernel_rfl) (by kernel_rfl) (by kernel_rfl) ?hqr6_1_5 (Or.inl ⟨by kernel_rfl, ?hyr6_1_5⟩) (by assumption) ?restr6_1_5
                case hqr6_1_5 => exact fun _ _ _ h => h
                case hyr6_1_5 => (intro w hSw; (try dsimp only at hSw); go_simp; try with_reducible rfl)
                try simp only [Act.put, List.getElem_toArray, List.getElem_cons_succ, List.getElem_cons_zero, List.setIfInBounds_toArray, List.set_cons_zero, List.set_cons_succ]
                refine wpAnyH_take (i := 6) (oi := _) (v := ?vr6_1_6) rfl (by kernel_rfl) (by kernel_rfl) (by kernel_rfl) ?hqr6_1_6 (Or.inl ⟨by kernel_rfl, ?hyr6_1_6⟩) (by assumption) ?restr6_1_6
                case hqr6_1_6 => exact fun _ _ _ h => h
                case hyr6_1_6 => (intro w hSw; (try dsimp only at hSw); go_simp; try with_reducible rfl)
                try simp only [Act.put, List.getElem_toArray, List.getElem_cons_succ, List.getElem_cons_zero, List.setIfInBounds_toArray, List.set_cons_zero, List.set_cons_succ]
                refine wpAnyH_ready (rs := [7]) (by kernel_rfl) (by simp) ?_
                refine AllReadyH.cons (o := _) rfl (fun K hK => ?_) AllReadyH.nil
                go_simp
                (go_at_call 59; refine (HLE.out _).mono ?_; rintro e w6 ⟨rfl, hb6⟩; have hB6 : Bel w5 w6 := Bel.then_ (Bel.refl w5).drew.drew hb6)
                try (go_wp2_with fail)
                refine hK.out _ _ ?_ (fun hHr6_1 => ?_)
                · (try dsimp only); (first | assumption | exact hS _ (Bel.refl w5).drew.drew | exact hS _ hB6)
                clear hK K hHr6_0
                try simp only [Act.put, List.getElem_toArray, List.getElem_cons_succ, List.getElem_cons_zero, List.setIfInBounds_toArray, List.set_cons_zero, List.set_cons_succ]
                refine wpAnyH_take (i := 8) (oi := _) (v := ?vr6_1_8) rfl (by kernel_rfl) (by kernel_rfl) (by kernel_rfl) ?hqr6_1_8 (Or.inl ⟨by kernel_rfl, ?hyr6_1_8⟩) (by assumption) ?restr6_1_8
                case hqr6_1_8 => exact fun _ _ _ h => h
                case hyr6_1_8 => (intro w hSw; (try dsimp only at hSw); go_simp; try with_reducible rfl)
                try simp only [Act.put, List.getElem_toArray, List.getElem_cons_succ, List.getElem_cons_zero, List.setIfInBounds_toArray, List.set_cons_zero, List.set_cons_succ]
                refine wpAnyH_take (i := 9) (oi := _) (v := ?vr6_1_9) rfl (by kernel_rfl) (by kernel_rfl) (by kernel_rfl) ?hqr6_1_9 (Or.inl ⟨by kernel_rfl, ?hyr6_1_9⟩) (by assumption) ?restr6_1_9
                case hqr6_1_9 => exact fun _ _ _ h => h
                case hyr6_1_9 => (intro w hSw; (try dsimp only at hSw); go_simp; try with_reducible rfl)
                try simp only [Act.put, List.getElem_toArray, List.getElem_cons_succ, List.getElem_cons_zero, List.setIfInBounds_toArray, List.set_cons_zero, List.set_cons_succ]
                refine wpAnyH_take (i := 10) (oi := _) (v := ?vr6_1_10) rfl (by kernel_rfl) (by kernel_rfl) (by kernel_rfl) ?hqr6_1_10 (Or.inl ⟨by kernel_rfl, ?hyr6_1_10⟩) (by assumption) ?restr6_1_10
                case hqr6_1_10 => exact fun _ _ _ h => h
                case hyr6_1_10 => (intro w hSw; (try dsimp only at hSw); go_simp; try with_reducible rfl)
                try simp only [Act.put, List.getElem_toArray, List.getElem_cons_succ, List.getElem_cons_zero, List.setIfInBounds_toArray, List.set_cons_zero, List.set_cons_succ]
                refine wpAnyH_done (by kernel_rfl) ?_ _
                refine NoPanic.normal ?_
                go_wp2
                go_ret
                exact ⟨by rw [hR2]; rfl, hB5.then_ hB6⟩
            · simp only [mostI] at HLE HR1
              go_enter Tryz.func24, Tryz.ntmps24
              go_wp2_with (first | (go_at_call 56; refine (HCO.out _).mono ?_; rintro e w4 ⟨rfl, hb4⟩; obtain ⟨⟨a0, a1, a2, a3, c0, c1, c2, c3⟩, hB4⟩ := HCL.out _ hb4) | (go_at_call 57; refine (HCH.out _).mono ?_; rintro e w5 ⟨rfl, hb5⟩; obtain ⟨⟨d0, d1, d2, d3, e0, e1, e2, e3⟩, hB5⟩ := HCL.out _ (hb4.then_ hb5)))
              refine wp_region_noPanic ?_
              refine wp_region_held_drew (S := (fun V : World => Bel w5 V)) (by kernel_rfl) ?_ (fun hHr7_0 => ?_)
              · (try dsimp only); (first | assumption | exact (Bel.refl w5).drew)
              refine wpAnyH_take (i := 0) (oi := _) (v := ?vr7_1_0) rfl (by kernel_rfl) (by kernel_rfl) (by kernel_rfl) ?hqr7_1_0 (Or.inl ⟨by kernel_rfl, ?hyr7_1_0⟩) (by assumption) ?restr7_1_0
              case hqr7_1_0 => exact fun _ _ _ h => h
              case hyr7_1_0 => (intro w hSw; (try dsimp only at hSw); go_simp; try with_reducible rfl)
              try simp only [Act.put, List.getElem_toArray, List.getElem_cons_succ, List.getElem_cons_zero, List.setIfInBounds_toArray, List.set_cons_zero, List.set_cons_succ]
              refine wpAnyH_take (i := 1) (oi := _) (v := ?vr7_1_1) rfl (by kernel_rfl) (by kernel_rfl) (by kernel_rfl) ?hqr7_1_1 (Or.inl ⟨by kernel_rfl, ?hyr7_1_1⟩) (by assumption) ?restr7_1_1
              case hqr7_1_1 => exact fun _ _ _ h => h
              case hyr7_1_1 => (intro w hSw; (try dsimp only at hSw); go_simp; try with_reducible rfl)
              try simp only [Act.put, List.getElem_toArray, List.getElem_cons_succ, List.getElem_cons_zero, List.setIfInBounds_toArray, List.set_cons_zero, List.set_cons_succ]
              refine wpAnyH_take (i := 2) (oi := _) (v := ?vr7_1_2) rfl (by kernel_rfl) (by kernel_rfl) (by kernel_rfl) ?hqr7_1_2 (Or.inl ⟨by kernel_rfl, ?hyr7_1_2⟩) (by assumption) ?restr7_1_2
              case hqr7_1_2 => exact fun _ _ _ h => h
              case hyr7_1_2 => (intro w hSw; (try dsimp only at hSw); go_simp; try with_reducible rfl)
              try simp only [Act.put, List.getElem_toArray, List.getElem_cons_succ, List.getElem_cons_zero, List.setIfInBounds_toArray, List.set_cons_zero, List.set_cons_succ]
              refine wpAnyH_take (i := 3) (oi := _) (v := undef) rfl (by kernel_rfl) (by kernel_rfl) (by kernel_rfl) (fun _ _ _ h => h) (Or.inr ⟨by kernel_rfl, rfl⟩) (by assumption) ?restr7_1_3
              try simp only [Act.put, List.getElem_toArray, List.getElem_cons_succ, List.getElem_cons_zero, List.setIfInBounds_toArray, List.set_cons_zero, List.set_cons_succ]
              refine wpAnyH_take (i := 4) (oi := _) (v := undef) rfl (by kernel_rfl) (by kernel_rfl) (by kernel_rfl) (fun _ _ _ h => h) (Or.inr ⟨by kernel_rfl, rfl⟩) (by assumption) ?restr7_1_4
              try simp only [Act.put, List.getElem_toArray, List.getElem_cons_succ, List.getElem_cons_zero, List.setIfInBounds_toArray, List.set_cons_zero, List.set_cons_succ]
              refine wpAnyH_take (i := 5) (oi := _) (v := undef) rfl (by kernel_rfl) (by kernel_rfl) (by kernel_rfl) (fun _ _ _ h => h) (Or.inr ⟨by kernel_rfl, rfl⟩) (by assumption) ?restr7_1_5
              try simp only [Act.put, List.getElem_toArray, List.getElem_cons_succ, List.getElem_cons_zero, List.setIfInBounds_toArray, List.set_cons_zero, List.set_cons_succ]
              refine wpAnyH_take (i := 6) (oi := _) (v := undef) rfl (by kernel_rfl) (by kernel_rfl) (by kernel_rfl) (fun _ _ _ h => h) (Or.inr ⟨by kernel_rfl, rfl⟩) (by assumption) ?restr7_1_6
              try simp only [Act.put, List.getElem_toArray, List.getElem_cons_succ, List.getElem_cons_zero, List.setIfInBounds_toArray, List.set_cons_zero, List.set_cons_succ]
              refine wpAnyH_take (i := 7) (oi := _) (v := undef) rfl (by kernel_rfl) (by kernel_rfl) (by kernel_rfl) (fun _ _ _ h => h) (Or.inr ⟨by kernel_rfl, rfl⟩) (by assumption) ?restr7_1_7
              try simp only [Act.put, List.getElem_toArray, List.getElem_cons_succ, List.getElem_cons_zero, List.setIfInBounds_toArray, List.set_cons_zero, List.set_cons_succ]
              refine wpAnyH_take (i := 8) (oi := _) (v := undef) rfl (by kernel_rfl) (by kernel_rfl) (by kernel_rfl) (fun _ _ _ h => h) (Or.inr ⟨by kernel_rfl, rfl⟩) (by assumption) ?restr7_1_8
              try simp only [Act.put, List.getElem_toArray, List.getElem_cons_succ, List.getElem_cons_zero, List.setIfInBounds_toArray, List.set_cons_zero, List.set_cons_succ]
              refine wpAnyH_take (i := 9) (oi := _) (v := undef) rfl (by kernel_rfl) (by kernel_rfl) (by kernel_rfl) (fun _ _ _ h => h) (Or.inr ⟨by kernel_rfl, rfl⟩) (by assumption) ?restr7_1_9
              try simp only [Act.put, List.getElem_toArray, List.getElem_cons_succ, List.getElem_cons_zero, List.setIfInBounds_toArray, List.set_cons_zero, List.set_cons_succ]
              refine wpAnyH_take (i := 10) (oi := _) (v := undef) rfl (by kernel_rfl) (by kernel_rfl) (by kernel_rfl) (fun _ _ _ h => h) (Or.inr ⟨by kernel_rfl, rfl⟩) (by assumption) ?restr7_1_10
              try simp only [Act.put, List.getElem_toArray, List.getElem_cons_succ, List.getElem_cons_zero, List.setIfInBounds_toArray, List.set_cons_zero, List.set_cons_succ]
              refine wpAnyH_take (i := 11) (oi := _) (v := undef) rfl (by kernel_rfl) (by kernel_rfl) (by kernel_rfl) (fun _ _ _ h => h) (Or.inr ⟨by kernel_rfl, rfl⟩) (by assumption) ?restr7_1_11
              try simp only [Act.put, List.getElem_toArray, List.getElem_cons_succ, List.getElem_cons_zero, List.setIfInBounds_toArray, List.set_cons_zero, List.set_cons_succ]
              refine wpAnyH_take (i := 12) (oi := _) (v := undef) rfl (by kernel_rfl) (by kernel_rfl) (by kernel_rfl) (fun _ _ _ h => h) (Or.inr ⟨by kernel_rfl, rfl⟩) (by assumption) ?restr7_1_12
              try simp only [Act.put, List.getElem_toArray, List.getElem_cons_succ, List.getElem_cons_zero, List.setIfInBounds_toArray, List.set_cons_zero, List.set_cons_succ]
              refine wpAnyH_take (i := 13) (oi := _) (v := undef) rfl (by kernel_rfl) (by kernel_rfl) (by kernel_rfl) (fun _ _ _ h => h) (Or.inr ⟨by kernel_rfl, rfl⟩) (by assumption) ?restr7_1_13
              try simp only [Act.put, List.getElem_toArray, List.getElem_cons_succ, List.getElem_cons_zero, List.setIfInBounds_toArray, List.set_cons_zero, List.set_cons_succ]
              refine wpAnyH_take (i := 14) (oi := _) (v := undef) rfl (by kernel_rfl) (by kernel_rfl) (by kernel_rfl) (fun _ _ _ h => h) (Or.inr ⟨by kernel_rfl, rfl⟩) (by assumption) ?restr7_1_14
              try simp only [Act.put, List.getElem_toArray, List.getElem_cons_succ, List.getElem_cons_zero, List.setIfInBounds_toArray, List.set_cons_zero, List.set_cons_succ]
              refine wpAnyH_take (i := 15) (oi := _) (v := undef) rfl (by kernel_rfl) (by kernel_rfl) (by kernel_rfl) (fun _ _ _ h => h) (Or.inr ⟨by kernel_rfl, rfl⟩) (by assumption) ?restr7_1_15
              try simp only [Act.put, List.getElem_toArray, List.getElem_cons_succ, List.getElem_cons_zero, List.setIfInBounds_toArray, List.set_cons_zero, List.set_cons_succ]
              refine wpAnyH_take (i := 16) (oi := _) (v := undef) rfl (by kernel_rfl) (by kernel_rfl) (by kernel_rfl) (fun _ _ _ h => h) (Or.inr ⟨by kernel_rfl, rfl⟩) (by assumption) ?restr7_1_16
              try simp only [Act.put, List.getElem_toArray, List.getElem_cons_succ, List.getElem_cons_zero, List.setIfInBounds_toArray, List.set_cons_zero, List.set_cons_succ]
              refine wpAnyH_take (i := 17) (oi := _) (v := undef) rfl (by kernel_rfl) (by kernel_rfl) (by kernel_rfl) (fun _ _ _ h => h) (Or.inr ⟨by kernel_rfl, rfl⟩) (by assumption) ?restr7_1_17
              try simp only [Act.put, List.getElem_toArray, List.getElem_cons_succ, List.getElem_cons_zero, List.setIfInBounds_toArray, List.set_cons_zero, List.set_cons_succ]
              refine wpAnyH_take (i := 18) (oi := _) (v := undef) rfl (by kernel_rfl) (by kernel_rfl) (by kernel_rfl) (fun _ _ _ h => h) (Or.inr ⟨by kernel_rfl, rfl⟩) (by assumption) ?restr7_1_18
              try simp only [Act.put, List.getElem_toArray, List.getElem_cons_succ, List.getElem_cons_zero, List.setIfInBounds_toArray, List.set_cons_zero, List.set_cons_succ]
              refine wpAnyH_take (i := 19) (oi := _) (v := ?vr7_1_19) rfl (by kernel_rfl) (by kernel_rfl) (by kernel_rfl) ?hqr7_1_19 (Or.inl ⟨by kernel_rfl, ?hyr7_1_19⟩) (by assumption) ?restr7_1_19
              case hqr7_1_19 => exact fun _ _ _ h => h
              case hyr7_1_19 => (intro w hSw; (try dsimp only at hSw); go_simp; try with_reducible rfl)
              try simp only [Act.put, List.getElem_toArray, List.getElem_cons_succ, List.getElem_cons_zero, List.setIfInBounds_toArray, List.set_cons_zero, List.set_cons_succ]
              refine wpAnyH_take (i := 20) (oi := _) (v := ?vr7_1_20) rfl (by kernel_rfl) (by kernel_rfl) (by kernel_rfl) ?hqr7_1_20 (Or.inl ⟨by kernel_rfl, ?hyr7_1_20⟩) (by assumption) ?restr7_1_20
              case hqr7_1_20 => exact fun _ _ _ h => h
              case hyr7_1_20 => (intro w hSw; (try dsimp only at hSw); go_simp; try with_reducible rfl)
              try simp only [Act.put, List.getElem_toArray, List.getElem_cons_succ, List.getElem_cons_zero, List.setIfInBounds_toArray, List.set_cons_zero, List.set_cons_succ]
              refine wpAnyH_done (by kernel_rfl) ?_ _
              refine NoPanic.normal ?_
              go_wp2
              have hS : ∀ V, Bel w5 V → (V.cell? ⟨w.heap.size, 2, none⟩ = some (.int .i64 4) ∧ V.cell? ⟨w.heap.size + 1, 2, none⟩ = some (.int .u64 u) ∧ Bel w5 V) := fun V h => ⟨h.c d2, h.c e2, h⟩
              by_cases hl : 4294967295 < u
              · have hR2 : R = 133 := by rw [HR1.out, if_neg (by omega)]
                refine wp_region_noPanic ?_
                refine wp_region_held_drew (S := (fun V : World => V.cell? ⟨w.heap.size, 2, none⟩ = some (.int .i64 4) ∧ V.cell? ⟨w.heap.size + 1, 2, none⟩ = some (.int .u64 u) ∧ Bel w5 V)) (by kernel_rfl) ?_ (fun hHr8_0 => ?_)
                · (try dsimp only); (first | assumption | exact hS _ (Bel.refl w5).drew.drew | exact hS _ hB6)
                refine wpAnyH_take (i := 0) (oi := _) (v := ?vr8_1_0) rfl (by kernel_rfl) (by kernel_rfl) (by kernel_rfl) ?hqr8_1_0 (Or.inl ⟨by kernel_rfl, ?hyr8_1_0⟩) (by assumption) ?restr8_1_0
                case hqr8_1_0 => exact fun _ _ _ h => h
                case hyr8_1_0 => (intro w hSw; (try dsimp only at hSw); go_simp; try with_reducible rfl)
                try simp only [Act.put, List.getElem_toArray, List.getElem_cons_succ, List.getElem_cons_zero, List.setIfInBounds_toArray, List.set_cons_zero, List.set_cons_succ]
                refine wpAnyH_take (i := 1) (oi := _) (v := ?vr8_1_1) rfl (by kernel_rfl) (by kernel_rfl) (by kernel_rfl) ?hqr8_1_1 (Or.inl ⟨by kernel_rfl, ?hyr8_1_1⟩) (by assumption) ?restr8_1_1
                case hqr8_1_1 => exact fun _ _ _ h => h
                case hyr8_1_1 => (intro w hSw; (try dsimp only at hSw); go_simp; try with_reducible rfl)
                try simp only [Act.put, List.getElem_toArray, List.getElem_cons_succ, List.getElem_cons_zero, List.setIfInBounds_toArray, List.set_cons_zero, List.set_cons_succ]
                refine wpAnyH_take (i := 2) (oi := _) (v := ?vr8_1_2) rfl (by kernel_rfl) (by kernel_rfl) (by kernel_rfl) ?hqr8_1_2 (Or.inl ⟨by kernel_rfl, ?hyr8_1_2⟩) (by assumption) ?restr8_1_2
                case hqr8_1_2 => exact fun _ _ _ h => h
                case hyr8_1_2 => (intro w hSw; (try dsimp only at hSw); go_simp; try with_reducible rfl)
                try simp only [Act.put, List.getElem_toArray, List.getElem_cons_succ, List.getElem_cons_zero, List.setIfInBounds_toArray, List.set_cons_zero, List.set_cons_succ]
                refine wpAnyH_take (i := 3) (oi := _) (v := ?vr8_1_3) rfl (by kernel_rfl) (by kernel_rfl) (by kernel_rfl) ?hqr8_1_3 (Or.inl ⟨by kernel_rfl, ?hyr8_1_3⟩) (by assumption) ?restr8_1_3
                case hqr8_1_3 => exact fun _ _ _ h => h
                case hyr8_1_3 => (intro w hSw; (try dsimp only at hSw); go_simp; try with_reducible rfl)
                try simp only [Act.put, List.getElem_toArray, List.getElem_cons_succ, List.getElem_cons_zero, List.setIfInBounds_toArray, List.set_cons_zero, List.set_cons_succ]
                refine wpAnyH_take (i := 4) (oi := _) (v := ?vr8_1_4) rfl (by kernel_rfl) (by kernel_rfl) (by kernel_rfl) ?hqr8_1_4 (Or.inl ⟨by kernel_rfl, ?hyr8_1_4⟩) (by assumption) ?restr8_1_4
                case hqr8_1_4 => exact fun _ _ _ h => h
                case hyr8_1_4 => (intro w hSw; (try dsimp only at hSw); go_simp; try with_reducible rfl)
                try simp only [Act.put, List.getElem_toArray, List.getElem_cons_succ, List.getElem_cons_zero, List.setIfInBounds_toArray, List.set_cons_zero, List.set_cons_succ]
                refine wpAnyH_take (i := 5) (oi := _) (v := ?vr8_1_5) rfl (by kernel_rfl) (by kernel_rfl) (by kernel_rfl) ?hqr8_1_5 (Or.inl ⟨by kernel_rfl, ?hyr8_1_5⟩) (by assumption) ?restr8_1_5
                case hqr8_1_5 => exact fun _ _ _ h => h
                case hyr8_1_5 => (intro w hSw; (try dsimp only at hSw); go_simp; try with_reducible rfl)
                try simp only [Act.put, List.getElem_toArray, List.getElem_cons_succ, List.getElem_cons_zero, List.setIfInBounds_toArray, List.set_cons_zero, List.set_cons_succ]
                refine wpAnyH_take (i := 6) (oi := _) (v := ?vr8_1_6) rfl (by kernel_rfl) (by kernel_rfl) (by kernel_rfl) ?hqr8_1_6 (Or.inl ⟨by kernel_rfl, ?hyr8_1_6⟩) (by assumption) ?restr8_1_6
                case hqr8_1_6 => exact fun _ _ _ h => h
                case hyr8_1_6 => (intro w hSw; (try dsimp only at hSw); go_simp; try with_reducible rfl)
                try simp only [Act.put, List.getElem_toArray, List.getElem_cons_succ, List.getElem_cons_zero, List.setIfInBounds_toArray, List.set_cons_zero, List.set_cons_succ]
                refine wpAnyH_ready (rs := [7]) (by kernel_rfl) (by simp) ?_
                refine AllReadyH.cons (o := _) rfl (fun K hK => ?_) AllReadyH.nil
                go_simp
                (go_at_call 59; refine (HLE.out _).mono ?_; rintro e w6 ⟨rfl, hb6⟩; have hB6 : Bel w5 w6 := Bel.then_ (Bel.refl w5).drew.drew hb6)
                try (go_wp2_with fail)
                refine hK.out _ _ ?_ (fun hHr8_1 => ?_)
                · (try dsimp only); (first | assumption | exact hS _ (Bel.refl w5).drew.drew | exact hS _ hB6)
                clear hK K hHr8_0
                try simp only [Act.put, List.getElem_toArray, List.getElem_cons_succ, List.getElem_cons_zero, List.setIfInBounds_toArray, List.set_cons_zero, List.set_cons_succ]
                refine wpAnyH_take (i := 8) (oi := _) (v := ?vr8_1_8) rfl (by kernel_rfl) (by kernel_rfl) (by kernel_rfl) ?hqr8_1_8 (Or.inl ⟨by kernel_rfl, ?hyr8_1_8⟩) (by assumption) ?restr8_1_8
                case hqr8_1_8 => exact fun _ _ _ h => h
                case hyr8_1_8 => (intro w hSw; (try dsimp only at hSw); go_simp; try with_reducible rfl)
                try simp only [Act.put, List.getElem_toArray, List.getElem_cons_succ, List.getElem_cons_zero, List.setIfInBounds_toArray, List.set_cons_zero, List.set_cons_succ]
                refine wpAnyH_take (i := 9) (oi := _) (v := ?vr8_1_9) rfl (by kernel_rfl) (by kernel_rfl) (by kernel_rfl) ?hqr8_1_9 (Or.inl ⟨by kernel_rfl, ?hyr8_1_9⟩) (by assumption) ?restr8_1_9
                case hqr8_1_9 => exact fun _ _ _ h => h
                case hyr8_1_9 => (intro w hSw; (try dsimp only at hSw); go_simp; try with_reducible rfl)
                try simp only [Act.put, List.getElem_toArray, List.getElem_cons_succ, List.getElem_cons_zero, List.setIfInBounds_toArray, List.set_cons_zero, List.set_cons_succ]
                refine wpAnyH_take (i := 10) (oi := _) (v := ?vr8_1_10) rfl (by kernel_rfl) (by kernel_rfl) (by kernel_rfl) ?hqr8_1_10 (Or.inl ⟨by kernel_rfl, ?hyr8_1_10⟩) (by assumption) ?restr8_1_10
                case hqr8_1_10 => exact fun _ _ _ h => h
                case hyr8_1_10 => (intro w hSw; (try dsimp only at hSw); go_simp; try with_reducible rfl)
                try simp only [Act.put, List.getElem_toArray, List.getElem_cons_succ, List.getElem_cons_zero, List.setIfInBounds_toArray, List.set_cons_zero, List.set_cons_succ]
                refine wpAnyH_done (by kernel_rfl) ?_ _
                refine NoPanic.normal ?_
                go_wp2
                go_ret
                exact ⟨by rw [hR2]; rfl, hB5.then_ hB6⟩
              · have hlb : decide (4294967295 < u) = false := by simp; omega
                have hR2 : R = 0 := by rw [HR1.out, if_pos (by omega)]
                refine wp_region_noPanic ?_
                refine wp_region_held_drew (S := (fun V : World => V.cell? ⟨w.heap.size, 2, none⟩ = some (.int .i64 4) ∧ V.cell? ⟨w.heap.size + 1, 2, none⟩ = some (.int .u64 u) ∧ Bel w5 V)) (by kernel_rfl) ?_ (fun hHr9_0 => ?_)
                · (try dsimp only); (first | assumption | exact hS _ (Bel.refl w5).drew.drew | exact hS _ hB6)
                refine wpAnyH_take (i := 0) (oi := _) (v := ?vr9_1_0) rfl (by kernel_rfl) (by kernel_rfl) (by kernel_rfl) ?hqr9_1_0 (Or.inl ⟨by kernel_rfl, ?hyr9_1_0⟩) (by assumption) ?restr9_1_0
                case hqr9_1_0 => exact fun _ _ _ h => h
                case hyr9_1_0 => (intro w hSw; (try dsimp only at hSw); go_simp; try with_reducible rfl)
                try simp only [Act.put, List.getElem_toArray, List.getElem_cons_succ, List.getElem_cons_zero, List.setIfInBounds_toArray, List.set_cons_zero, List.set_cons_succ]
                refine wpAnyH_take (i := 1) (oi := _) (v := ?vr9_1_1) rfl (by kernel_rfl) (by kernel_rfl) (by kernel_rfl) ?hqr9_1_1 (Or.inl ⟨by kernel_rfl, ?hyr9_1_1⟩) (by assumption) ?restr9_1_1
                case hqr9_1_1 => exact fun _ _ _ h => h
                case hyr9_1_1 => (intro w hSw; (try dsimp only at hSw); go_simp; try with_reducible rfl)
                try simp only [Act.put, List.getElem_toArray, List.getElem_cons_succ, List.getElem_cons_zero, List.setIfInBounds_toArray, List.set_cons_zero, List.set_cons_succ]
                refine wpAnyH_take (i := 2) (oi := _) (v := ?vr9_1_2) rfl (by kernel_rfl) (by kernel_rfl) (by kernel_rfl) ?hqr9_1_2 (Or.inl ⟨by kernel_rfl, ?hyr9_1_2⟩) (by assumption) ?restr9_1_2
                case hqr9_1_2 => exact fun _ _ _ h => h
                case hyr9_1_2 => (intro w hSw; (try dsimp only at hSw); go_simp; try with_reducible rfl)
                try simp only [Act.put, List.getElem_toArray, List.getElem_cons_succ, List.getElem_cons_zero, List.setIfInBounds_toArray, List.set_cons_zero, List.set_cons_succ]
                refine wpAnyH_take (i := 3) (oi := _) (v := ?vr9_1_3) rfl (by kernel_rfl) (by kernel_rfl) (by kernel_rfl) ?hqr9_1_3 (Or.inl ⟨by kernel_rfl, ?hyr9_1_3⟩) (by assumption) ?restr9_1_3
                case hqr9_1_3 => exact fun _ _ _ h => h
                case hyr9_1_3 => (intro w hSw; (try dsimp only at hSw); go_simp; try with_reducible rfl)
                try simp only [Act.put, List.getElem_toArray, List.getElem_cons_succ, List.getElem_cons_zero, List.setIfInBounds_toArray, List.set_cons_zero, List.set_cons_succ]
                refine wpAnyH_take (i := 4) (oi := _) (v := ?vr9_1_4) rfl (by kernel_rfl) (by kernel_rfl) (by kernel_rfl) ?hqr9_1_4 (Or.inl ⟨by kernel_rfl, ?hyr9_1_4⟩) (by assumption) ?restr9_1_4
                case hqr9_1_4 => exact fun _ _ _ h => h
                case hyr9_1_4 => (intro w hSw; (try dsimp only at hSw); go_simp; try with_reducible rfl)
                try simp only [Act.put, List.getElem_toArray, List.getElem_cons_succ, List.getElem_cons_zero, List.setIfInBounds_toArray, List.set_cons_zero, List.set_cons_succ]
                refine wpAnyH_take (i := 5) (oi := _) (v := ?vr9_1_5) rfl (by kernel_rfl) (by kernel_rfl) (by kernel_rfl) ?hqr9_1_5 (Or.inl ⟨by kernel_rfl, ?hyr9_1_5⟩) (by assumption) ?restr9_1_5
                case hqr9_1_5 => exact fun _ _ _ h => h
                case hyr9_1_5 => (intro w hSw; (try dsimp only at hSw); go_simp; try with_reducible rfl)
                try simp only [Act.put, List.getElem_toArray, List.getElem_cons_succ, List.getElem_cons_zero, List.setIfInBounds_toArray, List.set_cons_zero, List.set_cons_succ]
                refine wpAnyH_take (i := 6) (oi := _) (v := ?vr9_1_6) rfl (by kernel_rfl) (by kernel_rfl) (by kernel_rfl) ?hqr9_1_6 (Or.inl ⟨by kernel_rfl, ?hyr9_1_6⟩) (by assumption) ?restr9_1_6
                case hqr9_1_6 => exact fun _ _ _ h => h
                case hyr9_1_6 => (intro w hSw; (try dsimp only at hSw); go_simp; try with_reducible rfl)
                try simp only [Act.put, List.getElem_toArray, List.getElem_cons_succ, List.getElem_cons_zero, List.setIfInBounds_toArray, List.set_cons_zero, List.set_cons_succ]
                refine wpAnyH_ready (rs := [7]) (by kernel_rfl) (by simp) ?_
                refine AllReadyH.cons (o := _) rfl (fun K hK => ?_) AllReadyH.nil
                go_simp
                (go_at_call 59; refine (HLE.out _).mono ?_; rintro e w6 ⟨rfl, hb6⟩; have hB6 : Bel w5 w6 := Bel.then_ (Bel.refl w5).drew.drew hb6)
                try (go_wp2_with fail)
                refine hK.out _ _ ?_ (fun hHr9_1 => ?_)
                · (try dsimp only); (first | assumption | exact hS _ (Bel.refl w5).drew.drew | exact hS _ hB6)
                clear hK K hHr9_0
                try simp only [Act.put, List.getElem_toArray, List.getElem_cons_succ, List.getElem_cons_zero, List.setIfInBounds_toArray, List.set_cons_zero, List.set_cons_succ]
                refine wpAnyH_take (i := 8) (oi := _) (v := ?vr9_1_8) rfl (by kernel_rfl) (by kernel_rfl) (by kernel_rfl) ?hqr9_1_8 (Or.inl ⟨by kernel_rfl, ?hyr9_1_8⟩) (by assumption) ?restr9_1_8
                case hqr9_1_8 => exact fun _ _ _ h => h
                case hyr9_1_8 => (intro w hSw; (try dsimp only at hSw); go_simp; try with_reducible rfl)
                try simp only [Act.put, List.getElem_toArray, List.getElem_cons_succ, List.getElem_cons_zero, List.setIfInBounds_toArray, List.set_cons_zero, List.set_cons_succ]
                refine wpAnyH_take (i := 9) (oi := _) (v := ?vr9_1_9) rfl (by kernel_rfl) (by kernel_rfl) (by kernel_rfl) ?hqr9_1_9 (Or.inl ⟨by kernel_rfl, ?hyr9_1_9⟩) (by assumption) ?restr9_1_9
                case hqr9_1_9 => exact fun _ _ _ h => h
                case hyr9_1_9 => (intro w hSw; (try dsimp only at hSw); go_simp; try with_reducible rfl)
                try simp only [Act.put, List.getElem_toArray, List.getElem_cons_succ, List.getElem_cons_zero, List.setIfInBounds_toArray, List.set_cons_zero, List.set_cons_succ]
                refine wpAnyH_take (i := 10) (oi := _) (v := ?vr9_1_10) rfl (by kernel_rfl) (by kernel_rfl) (by kernel_rfl) ?hqr9_1_10 (Or.inl ⟨by kernel_rfl, ?hyr9_1_10⟩) (by assumption) ?restr9_1_10
                case hqr9_1_10 => exact fun _ _ _ h => h
                case hyr9_1_10 => (intro w hSw; (try dsimp only at hSw); go_simp; try with_reducible rfl)
                try simp only [Act.put, List.getElem_toArray, List.getElem_cons_succ, List.getElem_cons_zero, List.setIfInBounds_toArray, List.set_cons_zero, List.set_cons_succ]
                refine wpAnyH_done (by kernel_rfl) ?_ _
                refine NoPanic.normal ?_
                go_wp2
                go_ret
                exact ⟨by rw [hR2]; rfl, hB5.then_ hB6⟩
            · simp only [mostI] at HLE HR1
              go_enter Tryz.func24, Tryz.ntmps24
              go_wp2_with (first | (go_at_call 56; refine (HCO.out _).mono ?_; rintro e w4 ⟨rfl, hb4⟩; obtain ⟨⟨a0, a1, a2, a3, c0, c1, c2, c3⟩, hB4⟩ := HCL.out _ hb4) | (go_at_call 57; refine (HCH.out _).mono ?_; rintro e w5 ⟨rfl, hb5⟩; obtain ⟨⟨d0, d1, d2, d3, e0, e1, e2, e3⟩, hB5⟩ := HCL.out _ (hb4.then_ hb5)))
              refine wp_region_noPanic ?_
              refine wp_region_held_drew (S := (fun V : World => Bel w5 V)) (by kernel_rfl) ?_ (fun hHr10_0 => ?_)
              · (try dsimp only); (first | assumption | exact (Bel.refl w5).drew)
              refine wpAnyH_take (i := 0) (oi := _) (v := ?vr10_1_0) rfl (by kernel_rfl) (by kernel_rfl) (by kernel_rfl) ?hqr10_1_0 (Or.inl ⟨by kernel_rfl, ?hyr10_1_0⟩) (by assumption) ?restr10_1_0
              case hqr10_1_0 => exact fun _ _ _ h => h
              case hyr10_1_0 => (intro w hSw; (try dsimp only at hSw); go_simp; try with_reducible rfl)
              try simp only [Act.put, List.getElem_toArray, List.getElem_cons_succ, List.getElem_cons_zero, List.setIfInBounds_toArray, List.set_cons_zero, List.set_cons_succ]
              refine wpAnyH_take (i := 1) (oi := _) (v := ?vr10_1_1) rfl (by kernel_rfl) (by kernel_rfl) (by kernel_rfl) ?hqr10_1_1 (Or.inl ⟨by kernel_rfl, ?hyr10_1_1⟩) (by assumption) ?restr10_1_1
              case hqr10_1_1 => exact fun _ _ _ h => h
              case hyr10_1_1 => (intro w hSw; (try dsimp only at hSw); go_simp; try with_reducible rfl)
              try simp only [Act.put, List.getElem_toArray, List.getElem_cons_succ, List.getElem_cons_zero, List.setIfInBounds_toArray, List.set_cons_zero, List.set_cons_succ]
              refine wpAnyH_take (i := 2) (oi := _) (v := ?vr10_1_2) rfl (by kernel_rfl) (by kernel_rfl) (by kernel_rfl) ?hqr10_1_2 (Or.inl ⟨by kernel_rfl, ?hyr10_1_2⟩) (by assumption) ?restr10_1_2
              case hqr10_1_2 => exact fun _ _ _ h => h
              case hyr10_1_2 => (intro w hSw; (try dsimp only at hSw); go_simp; try with_reducible rfl)
              try simp only [Act.put, List.getElem_toArray, List.getElem_cons_succ, List.getElem_cons_zero, List.setIfInBounds_toArray, List.set_cons_zero, List.set_cons_succ]
              refine wpAnyH_take (i := 3) (oi := _) (v := undef) rfl (by kernel_rfl) (by kernel_rfl) (by kernel_rfl) (fun _ _ _ h => h) (Or.inr ⟨by kernel_rfl, rfl⟩) (by assumption) ?restr10_1_3
              try simp only [Act.put, List.getElem_toArray, List.getElem_cons_succ, List.getElem_cons_zero, List.setIfInBounds_toArray, List.set_cons_zero, List.set_cons_succ]
              refine wpAnyH_take (i := 4) (oi := _) (v := undef) rfl (by kernel_rfl) (by kernel_rfl) (by kernel_rfl) (fun _ _ _ h => h) (Or.inr ⟨by kernel_rfl, rfl⟩) (by assumption) ?restr10_1_4
              try simp only [Act.put, List.getElem_toArray, List.getElem_cons_succ, List.getElem_cons_zero, List.setIfInBounds_toArray, List.set_cons_zero, List.set_cons_succ]
              refine wpAnyH_take (i := 5) (oi := _) (v := undef) rfl (by kernel_rfl) (by kernel_rfl) (by kernel_rfl) (fun _ _ _ h => h) (Or.inr ⟨by kernel_rfl, rfl⟩) (by assumption) ?restr10_1_5
              try simp only [Act.put, List.getElem_toArray, List.getElem_cons_succ, List.getElem_cons_zero, List.setIfInBounds_toArray, List.set_cons_zero, List.set_cons_succ]
              refine wpAnyH_take (i := 6) (oi := _) (v := undef) rfl (by kernel_rfl) (by kernel_rfl) (by kernel_rfl) (fun _ _ _ h => h) (Or.inr ⟨by kernel_rfl, rfl⟩) (by assumption) ?restr10_1_6
              try simp only [Act.put, List.getElem_toArray, List.getElem_cons_succ, List.getElem_cons_zero, List.setIfInBounds_toArray, List.set_cons_zero, List.set_cons_succ]
              refine wpAnyH_take (i := 7) (oi := _) (v := undef) rfl (by kernel_rfl) (by kernel_rfl) (by kernel_rfl) (fun _ _ _ h => h) (Or.inr ⟨by kernel_rfl, rfl⟩) (by assumption) ?restr10_1_7
              try simp only [Act.put, List.getElem_toArray, List.getElem_cons_succ, List.getElem_cons_zero, List.setIfInBounds_toArray, List.set_cons_zero, List.set_cons_succ]
              refine wpAnyH_take (i := 8) (oi := _) (v := undef) rfl (by kernel_rfl) (by kernel_rfl) (by kernel_rfl) (fun _ _ _ h => h) (Or.inr ⟨by kernel_rfl, rfl⟩) (by assumption) ?restr10_1_8
              try simp only [Act.put, List.getElem_toArray, List.getElem_cons_succ, List.getElem_cons_zero, List.setIfInBounds_toArray, List.set_cons_zero, List.set_cons_succ]
              refine wpAnyH_take (i := 9) (oi := _) (v := undef) rfl (by kernel_rfl) (by kernel_rfl) (by kernel_rfl) (fun _ _ _ h => h) (Or.inr ⟨by kernel_rfl, rfl⟩) (by assumption) ?restr10_1_9
              try simp only [Act.put, List.getElem_toArray, List.getElem_cons_succ, List.getElem_cons_zero, List.setIfInBounds_toArray, List.set_cons_zero, List.set_cons_succ]
              refine wpAnyH_take (i := 10) (oi := _) (v := undef) rfl (by kernel_rfl) (by kernel_rfl) (by kernel_rfl) (fun _ _ _ h => h) (Or.inr ⟨by kernel_rfl, rfl⟩) (by assumption) ?restr10_1_10
              try simp only [Act.put, List.getElem_toArray, List.getElem_cons_succ, List.getElem_cons_zero, List.setIfInBounds_toArray, List.set_cons_zero, List.set_cons_succ]
              refine wpAnyH_take (i := 11) (oi := _) (v := undef) rfl (by kernel_rfl) (by kernel_rfl) (by kernel_rfl) (fun _ _ _ h => h) (Or.inr ⟨by kernel_rfl, rfl⟩) (by assumption) ?restr10_1_11
              try simp only [Act.put, List.getElem_toArray, List.getElem_cons_succ, List.getElem_cons_zero, List.setIfInBounds_toArray, List.set_cons_zero, List.set_cons_succ]
              refine wpAnyH_take (i := 12) (oi := _) (v := undef) rfl (by kernel_rfl) (by kernel_rfl) (by kernel_rfl) (fun _ _ _ h => h) (Or.inr ⟨by kernel_rfl, rfl⟩) (by assumption) ?restr10_1_12
              try simp only [Act.put, List.getElem_toArray, List.getElem_cons_succ, List.getElem_cons_zero, List.setIfInBounds_toArray, List.set_cons_zero, List.set_cons_succ]
              refine wpAnyH_take (i := 13) (oi := _) (v := undef) rfl (by kernel_rfl) (by kernel_rfl) (by kernel_rfl) (fun _ _ _ h => h) (Or.inr ⟨by kernel_rfl, rfl⟩) (by assumption) ?restr10_1_13
              try simp only [Act.put, List.getElem_toArray, List.getElem_cons_succ, List.getElem_cons_zero, List.setIfInBounds_toArray, List.set_cons_zero, List.set_cons_succ]
              refine wpAnyH_take (i := 14) (oi := _) (v := undef) rfl (by kernel_rfl) (by kernel_rfl) (by kernel_rfl) (fun _ _ _ h => h) (Or.inr ⟨by kernel_rfl, rfl⟩) (by assumption) ?restr10_1_14
              try simp only [Act.put, List.getElem_toArray, List.getElem_cons_succ, List.getElem_cons_zero, List.setIfInBounds_toArray, List.set_cons_zero, List.set_cons_succ]
              refine wpAnyH_take (i := 15) (oi := _) (v := undef) rfl (by kernel_rfl) (by kernel_rfl) (by kernel_rfl) (fun _ _ _ h => h) (Or.inr ⟨by kernel_rfl, rfl⟩) (by assumption) ?restr10_1_15
              try simp only [Act.put, List.getElem_toArray, List.getElem_cons_succ, List.getElem_cons_zero, List.setIfInBounds_toArray, List.set_cons_zero, List.set_cons_succ]
              refine wpAnyH_take (i := 16) (oi := _) (v := undef) rfl (by kernel_rfl) (by kernel_rfl) (by kernel_rfl) (fun _ _ _ h => h) (Or.inr ⟨by kernel_rfl, rfl⟩) (by assumption) ?restr10_1_16
              try simp only [Act.put, List.getElem_toArray, List.getElem_cons_succ, List.getElem_cons_zero, List.setIfInBounds_toArray, List.set_cons_zero, List.set_cons_succ]
              refine wpAnyH_take (i := 17) (oi := _) (v := undef) rfl (by kernel_rfl) (by kernel_rfl) (by kernel_rfl) (fun _ _ _ h => h) (Or.inr ⟨by kernel_rfl, rfl⟩) (by assumption) ?restr10_1_17
              try simp only [Act.put, List.getElem_toArray, List.getElem_cons_succ, List.getElem_cons_zero, List.setIfInBounds_toArray, List.set_cons_zero, List.set_cons_succ]
              refine wpAnyH_take (i := 18) (oi := _) (v := undef) rfl (by kernel_rfl) (by kernel_rfl) (by kernel_rfl) (fun _ _ _ h => h) (Or.inr ⟨by kernel_rfl, rfl⟩) (by assumption) ?restr10_1_18
              try simp only [Act.put, List.getElem_toArray, List.getElem_cons_succ, List.getElem_cons_zero, List.setIfInBounds_toArray, List.set_cons_zero, List.set_cons_succ]
              refine wpAnyH_take (i := 19) (oi := _) (v := ?vr10_1_19) rfl (by kernel_rfl) (by kernel_rfl) (by kernel_rfl) ?hqr10_1_19 (Or.inl ⟨by kernel_rfl, ?hyr10_1_19⟩) (by assumption) ?restr10_1_19
              case hqr10_1_19 => exact fun _ _ _ h => h
              case hyr10_1_19 => (intro w hSw; (try dsimp only at hSw); go_simp; try with_reducible rfl)
              try simp only [Act.put, List.getElem_toArray, List.getElem_cons_succ, List.getElem_cons_zero, List.setIfInBounds_toArray, List.set_cons_zero, List.set_cons_succ]
              refine wpAnyH_take (i := 20) (oi := _) (v := ?vr10_1_20) rfl (by kernel_rfl) (by kernel_rfl) (by kernel_rfl) ?hqr10_1_20 (Or.inl ⟨by kernel_rfl, ?hyr10_1_20⟩) (by assumption) ?restr10_1_20
              case hqr10_1_20 => exact fun _ _ _ h => h
              case hyr10_1_20 => (intro w hSw; (try dsimp only at hSw); go_simp; try with_reducible rfl)
              try simp only [Act.put, List.getElem_toArray, List.getElem_cons_succ, List.getElem_cons_zero, List.setIfInBounds_toArray, List.set_cons_zero, List.set_cons_succ]
              refine wpAnyH_done (by kernel_rfl) ?_ _
              refine NoPanic.normal ?_
              go_wp2
              have hS : ∀ V, Bel w5 V → (V.cell? ⟨w.heap.size, 2, none⟩ = some (.int .i64 8) ∧ V.cell? ⟨w.heap.size + 1, 2, none⟩ = some (.int .u64 u) ∧ Bel w5 V) := fun V h => ⟨h.c d2, h.c e2, h⟩
              by_cases hl : 18446744073709551615 < u
              · have hR2 : R = 133 := by rw [HR1.out, if_neg (by omega)]
                refine wp_region_noPanic ?_
                refine wp_region_held_drew (S := (fun V : World => V.cell? ⟨w.heap.size, 2, none⟩ = some (.int .i64 8) ∧ V.cell? ⟨w.heap.size + 1, 2, none⟩ = some (.int .u64 u) ∧ Bel w5 V)) (by kernel_rfl) ?_ (fun hHr11_0 => ?_)
                · (try dsimp only); (first | assumption | exact hS _ (Bel.refl w5).drew.drew | exact hS _ hB6)
                refine wpAnyH_take (i := 0) (oi := _) (v := ?vr11_1_0) rfl (by kernel_rfl) (by kernel_rfl) (by kernel_rfl) ?hqr11_1_0 (Or.inl ⟨by kernel_rfl, ?hyr11_1_0⟩) (by assumption) ?restr11_1_0
                case hqr11_1_0 => exact fun _ _ _ h => h
                case hyr11_1_0 => (intro w hSw; (try dsimp only at hSw); go_simp; try with_reducible rfl)
                try simp only [Act.put, List.getElem_toArray, List.getElem_cons_succ, List.getElem_cons_zero, List.setIfInBounds_toArray, List.set_cons_zero, List.set_cons_succ]
                refine wpAnyH_take (i := 1) (oi := _) (v := ?vr11_1_1) rfl (by kernel_rfl) (by kernel_rfl) (by kernel_rfl) ?hqr11_1_1 (Or.inl ⟨by kernel_rfl, ?hyr11_1_1⟩) (by assumption) ?restr11_1_1
                case hqr11_1_1 => exact fun _ _ _ h => h
                case hyr11_1_1 => (intro w hSw; (try dsimp only at hSw); go_simp; try with_reducible rfl)
                try simp only [Act.put, List.getElem_toArray, List.getElem_cons_succ, List.getElem_cons_zero, List.setIfInBounds_toArray, List.set_cons_zero, List.set_cons_succ]
                refine wpAnyH_take (i := 2) (oi := _) (v := ?vr11_1_2) rfl (by kernel_rfl) (by kernel_rfl) (by kernel_rfl) ?hqr11_1_2 (Or.inl ⟨by kernel_rfl, ?hyr11_1_2⟩) (by assumption) ?restr11_1_2
                case hqr11_1_2 => exact fun _ _ _ h => h
                case hyr11_1_2 => (intro w hSw; (try dsimp only at hSw); go_simp; try with_reducible rfl)
                try simp only [Act.put, List.getElem_toArray, List.getElem_cons_succ, List.getElem_cons_zero, List.setIfInBounds_toArray, List.set_cons_zero, List.set_cons_succ]
                refine wpAnyH_take (i := 3) (oi := _) (v := ?vr11_1_3) rfl (by kernel_rfl) (by kernel_rfl) (by kernel_rfl) ?hqr11_1_3 (Or.inl ⟨by kernel_rfl, ?hyr11_1_3⟩) (by assumption) ?restr11_1_3
                case hqr11_1_3 => exact fun _ _ _ h => h
                case hyr11_1_3 => (intro w hSw; (try dsimp only at hSw); go_simp; try with_reducible rfl)
                try simp only [Act.put, List.getElem_toArray, List.getElem_cons_succ, List.getElem_cons_zero, List.setIfInBounds_toArray, List.set_cons_zero, List.set_cons_succ]
                refine wpAnyH_take (i := 4) (oi := _) (v := ?vr11_1_4) rfl (by kernel_rfl) (by kernel_rfl) (by kernel_rfl) ?hqr11_1_4 (Or.inl ⟨by kernel_rfl, ?hyr11_1_4⟩) (by assumption) ?restr11_1_4
                case hqr11_1_4 => exact fun _ _ _ h => h
                case hyr11_1_4 => (intro w hSw; (try dsimp only at hSw); go_simp; try with_reducible rfl)
                try simp only [Act.put, List.getElem_toArray, List.getElem_cons_succ, List.getElem_cons_zero, List.setIfInBounds_toArray, List.set_cons_zero, List.set_cons_succ]
                refine wpAnyH_take (i := 5) (oi := _) (v := ?vr11_1_5) rfl (by kernel_rfl) (by kernel_rfl) (by kernel_rfl) ?hqr11_1_5 (Or.inl ⟨by kernel_rfl, ?hyr11_1_5⟩) (by assumption) ?restr11_1_5
                case hqr11_1_5 => exact fun _ _ _ h => h
                case hyr11_1_5 => (intro w hSw; (try dsimp only at hSw); go_simp; try with_reducible rfl)
                try simp only [Act.put, List.getElem_toArray, List.getElem_cons_succ, List.getElem_cons_zero, List.setIfInBounds_toArray, List.set_cons_zero, List.set_cons_succ]
                refine wpAnyH_take (i := 6) (oi := _) (v := ?vr11_1_6) rfl (by kernel_rfl) (by kernel_rfl) (by kernel_rfl) ?hqr11_1_6 (Or.inl ⟨by kernel_rfl, ?hyr11_1_6⟩) (by assumption) ?restr11_1_6
                case hqr11_1_6 => exact fun _ _ _ h => h
                case hyr11_1_6 => (intro w hSw; (try dsimp only at hSw); go_simp; try with_reducible rfl)
                try simp only [Act.put, List.getElem_toArray, List.getElem_cons_succ, List.getElem_cons_zero, List.setIfInBounds_toArray, List.set_cons_zero, List.set_cons_succ]
                refine wpAnyH_ready (rs := [7]) (by kernel_rfl) (by simp) ?_
                refine AllReadyH.cons (o := _) rfl (fun K hK => ?_) AllReadyH.nil
                go_simp
                (go_at_call 59; refine (HLE.out _).mono ?_; rintro e w6 ⟨rfl, hb6⟩; have hB6 : Bel w5 w6 := Bel.then_ (Bel.refl w5).drew.drew hb6)
                try (go_wp2_with fail)
                refine hK.out _ _ ?_ (fun hHr11_1 => ?_)
                · (try dsimp only); (first | assumption | exact hS _ (Bel.refl w5).drew.drew | exact hS _ hB6)
                clear hK K hHr11_0
                try simp only [Act.put, List.getElem_toArray, List.getElem_cons_succ, List.getElem_cons_zero, List.setIfInBounds_toArray, List.set_cons_zero, List.set_cons_succ]
                refine wpAnyH_take (i := 8) (oi := _) (v := ?vr11_1_8) rfl (by kernel_rfl) (by kernel_rfl) (by kernel_rfl) ?hqr11_1_8 (Or.inl ⟨by kernel_rfl, ?hyr11_1_8⟩) (by assumption) ?restr11_1_8
                case hqr11_1_8 => exact fun _ _ _ h => h
                case hyr11_1_8 => (intro w hSw; (try dsimp only at hSw); go_simp; try with_reducible rfl)
                try simp only [Act.put, List.getElem_toArray, List.getElem_cons_succ, List.getElem_cons_zero, List.setIfInBounds_toArray, List.set_cons_zero, List.set_cons_succ]
                refine wpAnyH_take (i := 9) (oi := _) (v := ?vr11_1_9) rfl (by kernel_rfl) (by kernel_rfl) (by kernel_rfl) ?hqr11_1_9 (Or.inl ⟨by kernel_rfl, ?hyr11_1_9⟩) (by assumption) ?restr11_1_9
                case hqr11_1_9 => exact fun _ _ _ h => h
                case hyr11_1_9 => (intro w hSw; (try dsimp only at hSw); go_simp; try with_reducible rfl)
                try simp only [Act.put, List.getElem_toArray, List.getElem_cons_succ, List.getElem_cons_zero, List.setIfInBounds_toArray, List.set_cons_zero, List.set_cons_succ]
                refine wpAnyH_take (i := 10) (oi := _) (v := ?vr11_1_10) rfl (by kernel_rfl) (by kernel_rfl) (by kernel_rfl) ?hqr11_1_10 (Or.inl ⟨by kernel_rfl, ?hyr11_1_10⟩) (by assumption) ?restr11_1_10
                case hqr11_1_10 => exact fun _ _ _ h => h
                case hyr11_1_10 => (intro w hSw; (try dsimp only at hSw); go_simp; try with_reducible rfl)
                try simp only [Act.put, List.getElem_toArray, List.getElem_cons_succ, List.getElem_cons_zero, List.setIfInBounds_toArray, List.set_cons_zero, List.set_cons_succ]
                refine wpAnyH_done (by kernel_rfl) ?_ _
                refine NoPanic.normal ?_
                go_wp2
                go_ret
                exact ⟨by rw [hR2]; rfl, hB5.then_ hB6⟩
              · have hlb : decide (18446744073709551615 < u) = false := by simp; omega
                have hR2 : R = 0 := by rw [HR1.out, if_pos (by omega)]
                refine wp_region_noPanic ?_
                refine wp_region_held_drew (S := (fun V : World => V.cell? ⟨w.heap.size, 2, none⟩ = some (.int .i64 8) ∧ V.cell? ⟨w.heap.size + 1, 2, none⟩ = some (.int .u64 u) ∧ Bel w5 V)) (by kernel_rfl) ?_ (fun hHr12_0 => ?_)
                · (try dsimp only); (first | assumption | exact hS _ (Bel.refl w5).drew.drew | exact hS _ hB6)
                refine wpAnyH_take (i := 0) (oi := _) (v := ?vr12_1_0) rfl (by kernel_rfl) (by kernel_rfl) (by kernel_rfl) ?hqr12_1_0 (Or.inl ⟨by kernel_rfl, ?hyr12_1_0⟩) (by assumption) ?restr12_1_0
                case hqr12_1_0 => exact fun _ _ _ h => h
                case hyr12_1_0 => (intro w hSw; (try dsimp only at hSw); go_simp; try with_reducible rfl)
                try simp only [Act.put, List.getElem_toArray, List.getElem_cons_succ, List.getElem_cons_zero, List.setIfInBounds_toArray, List.set_cons_zero, List.set_cons_succ]
                refine wpAnyH_take (i := 1) (oi := _) (v := ?vr12_1_1) rfl (by kernel_rfl) (by kernel_rfl) (by kernel_rfl) ?hqr12_1_1 (Or.inl ⟨by kernel_rfl, ?hyr12_1_1⟩) (by assumption) ?restr12_1_1
                case hqr12_1_1 => exact fun _ _ _ h => h
                case hyr12_1_1 => (intro w hSw; (try dsimp only at hSw); go_simp; try with_reducible rfl)
                try simp only [Act.put, List.getElem_toArray, List.getElem_cons_succ, List.getElem_cons_zero, List.setIfInBounds_toArray, List.set_cons_zero, List.set_cons_succ]
                refine wpAnyH_take (i := 2) (oi := _) (v := ?vr12_1_2) rfl (by kernel_rfl) (by kernel_rfl) (by kernel_rfl) ?hqr12_1_2 (Or.inl ⟨by kernel_rfl, ?hyr12_1_2⟩) (by assumption) ?restr12_1_2
                case hqr12_1_2 => exact fun _ _ _ h => h
                case hyr12_1_2 => (intro w hSw; (try dsimp only at hSw); go_simp; try with_reducible rfl)
                try simp only [Act.put, List.getElem_toArray, List.getElem_cons_succ, List.getElem_cons_zero, List.setIfInBounds_toArray, List.set_cons_zero, List.set_cons_succ]
                refine wpAnyH_take (i := 3) (oi := _) (v := ?vr12_1_3) rfl (by kernel_rfl) (by kernel_rfl) (by kernel_rfl) ?hqr12_1_3 (Or.inl ⟨by kernel_rfl, ?hyr12_1_3⟩) (by assumption) ?restr12_1_3
                case hqr12_1_3 => exact fun _ _ _ h => h
                case hyr12_1_3 => (intro w hSw; (try dsimp only at hSw); go_simp; try with_reducible rfl)
                try simp only [Act.put, List.getElem_toArray, List.getElem_cons_succ, List.getElem_cons_zero, List.setIfInBounds_toArray, List.set_cons_zero, List.set_cons_succ]
                refine wpAnyH_take (i := 4) (oi := _) (v := ?vr12_1_4) rfl (by kernel_rfl) (by kernel_rfl) (by kernel_rfl) ?hqr12_1_4 (Or.inl ⟨by kernel_rfl, ?hyr12_1_4⟩) (by assumption) ?restr12_1_4
                case hqr12_1_4 => exact fun _ _ _ h => h
                case hyr12_1_4 => (intro w hSw; (try dsimp only at hSw); go_simp; try with_reducible rfl)
                try simp only [Act.put, List.getElem_toArray, List.getElem_cons_succ, List.getElem_cons_zero, List.setIfInBounds_toArray, List.set_cons_zero, List.set_cons_succ]
                refine wpAnyH_take (i := 5) (oi := _) (v := ?vr12_1_5) rfl (by kernel_rfl) (by kernel_rfl) (by kernel_rfl) ?hqr12_1_5 (Or.inl ⟨by kernel_rfl, ?hyr12_1_5⟩) (by assumption) ?restr12_1_5
                case hqr12_1_5 => exact fun _ _ _ h => h
                case hyr12_1_5 => (intro w hSw; (try dsimp only at hSw); go_simp; try with_reducible rfl)
                try simp only [Act.put, List.getElem_toArray, List.getElem_cons_succ, List.getElem_cons_zero, List.setIfInBounds_toArray, List.set_cons_zero, List.set_cons_succ]
                refine wpAnyH_take (i := 6) (oi := _) (v := ?vr12_1_6) rfl (by kernel_rfl) (by kernel_rfl) (by kernel_rfl) ?hqr12_1_6 (Or.inl ⟨by kernel_rfl, ?hyr12_1_6⟩) (by assumption) ?restr12_1_6
                case hqr12_1_6 => exact fun _ _ _ h => h
                case hyr12_1_6 => (intro w hSw; (try dsimp only at hSw); go_simp; try with_reducible rfl)
                try simp only [Act.put, List.getElem_toArray, List.getElem_cons_succ, List.getElem_cons_zero, List.setIfInBounds_toArray, List.set_cons_zero, List.set_cons_succ]
                refine wpAnyH_ready (rs := [7]) (by kernel_rfl) (by simp) ?_
                refine AllReadyH.cons (o := _) rfl (fun K hK => ?_) AllReadyH.nil
                go_simp
                (go_at_call 59; refine (HLE.out _).mono ?_; rintro e w6 ⟨rfl, hb6⟩; have hB6 : Bel w5 w6 := Bel.then_ (Bel.refl w5).drew.drew hb6)
                try (go_wp2_with fail)
                refine hK.out _ _ ?_ (fun hHr12_1 => ?_)
                · (try dsimp only); (first | assumption | exact hS _ (Bel.refl w5).drew.drew | exact hS _ hB6)
                clear hK K hHr12_0
                try simp only [Act.put, List.getElem_toArray, List.getElem_cons_succ, List.getElem_cons_zero, List.setIfInBounds_toArray, List.set_cons_zero, List.set_cons_succ]
                refine wpAnyH_take (i := 8) (oi := _) (v := ?vr12_1_8) rfl (by kernel_rfl) (by kernel_rfl) (by kernel_rfl) ?hqr12_1_8 (Or.inl ⟨by kernel_rfl, ?hyr12_1_8⟩) (by assumption) ?restr12_1_8
                case hqr12_1_8 => exact fun _ _ _ h => h
                case hyr12_1_8 => (intro w hSw; (try dsimp only at hSw); go_simp; try with_reducible rfl)
                try simp only [Act.put, List.getElem_toArray, List.getElem_cons_succ, List.getElem_cons_zero, List.setIfInBounds_toArray, List.set_cons_zero, List.set_cons_succ]
                refine wpAnyH_take (i := 9) (oi := _) (v := ?vr12_1_9) rfl (by kernel_rfl) (by kernel_rfl) (by kernel_rfl) ?hqr12_1_9 (Or.inl ⟨by kernel_rfl, ?hyr12_1_9⟩) (by assumption) ?restr12_1_9
                case hqr12_1_9 => exact fun _ _ _ h => h
                case hyr12_1_9 => (intro w hSw; (try dsimp only at hSw); go_simp; try with_reducible rfl)
                try simp only [Act.put, List.getElem_toArray, List.getElem_cons_succ, List.getElem_cons_zero, List.setIfInBounds_toArray, List.set_cons_zero, List.set_cons_succ]
                refine wpAnyH_take (i := 10) (oi := _) (v := ?vr12_1_10) rfl (by kernel_rfl) (by kernel_rfl) (by kernel_rfl) ?hqr12_1_10 (Or.inl ⟨by kernel_rfl, ?hyr12_1_10⟩) (by assumption) ?restr12_1_10
                case hqr12_1_10 => exact fun _ _ _ h => h
                case hyr12_1_10 => (intro w hSw; (try dsimp only at hSw); go_simp; try with_reducible rfl)
                try simp only [Act.put, List.getElem_toArray, List.getElem_cons_succ, List.getElem_cons_zero, List.setIfInBounds_toArray, List.set_cons_zero, List.set_cons_succ]
                refine wpAnyH_done (by kernel_rfl) ?_ _
                refine NoPanic.normal ?_
                go_wp2
                go_ret
                exact ⟨by rw [hR2]; rfl, hB5.then_ hB6⟩
          · have HR1 : Hid (R = 0) := by show _ = _; rw [hR1]; unfold fitB; simp
            clear hR1 HSZ
            go_enter Tryz.func24, Tryz.ntmps24
            go_wp2_with (first | (go_at_call 56; refine (HCO.out _).mono ?_; rintro e w4 ⟨rfl, hb4⟩; obtain ⟨⟨a0, a1, a2, a3, c0, c1, c2, c3⟩, hB4⟩ := HCL.out _ hb4) | (go_at_call 57; refine (HCH.out _).mono ?_; rintro e w5 ⟨rfl, hb5⟩; obtain ⟨⟨d0, d1, d2, d3, e0, e1, e2, e3⟩, hB5⟩ := HCL.out _ (hb4.then_ hb5)))
            refine wp_region_noPanic ?_
            refine wp_region_held_drew (S := (fun V : World => Bel w5 V)) (by kernel_rfl) ?_ (fun hHr13_0 => ?_)
            · (try dsimp only); (first | assumption | exact (Bel.refl w5).drew)
            refine wpAnyH_take (i := 0) (oi := _) (v := ?vr13_1_0) rfl (by kernel_rfl) (by kernel_rfl) (by kernel_rfl) ?hqr13_1_0 (Or.inl ⟨by kernel_rfl, ?hyr13_1_0⟩) (by assumption) ?restr13_1_0
            case hqr13_1_0 => exact fun _ _ _ h => h
            case hyr13_1_0 => (intro w hSw; (try dsimp only at hSw); go_simp; try with_reducible rfl)
            try simp only [Act.put, List.getElem_toArray, List.getElem_cons_succ, List.getElem_cons_zero, List.setIfInBounds_toArray, List.set_cons_zero, List.set_cons_succ]
            refine wpAnyH_take (i := 1) (oi := _) (v := ?vr13_1_1) rfl (by kernel_rfl) (by kernel_rfl) (by kernel_rfl) ?hqr13_1_1 (Or.inl ⟨by kernel_rfl, ?hyr13_1_1⟩) (by assumption) ?restr13_1_1
            case hqr13_1_1 => exact fun _ _ _ h => h
            case hyr13_1_1 => (intro w hSw; (try dsimp only at hSw); go_simp; try with_reducible rfl)
            try simp only [Act.put, List.getElem_toArray, List.getElem_cons_succ, List.getElem_cons_zero, List.setIfInBounds_toArray, List.set_cons_zero, List.set_cons_succ]
            refine wpAnyH_take (i := 2) (oi := _) (v := ?vr13_1_2) rfl (by kernel_rfl) (by kernel_rfl) (by kernel_rfl) ?hqr13_1_2 (Or.inl ⟨by kernel_rfl, ?hyr13_1_2⟩) (by assumption) ?restr13_1_2
            case hqr13_1_2 => exact fun _ _ _ h => h
            case hyr13_1_2 => (intro w hSw; (try dsimp only at hSw); go_simp; try with_reducible rfl)
            try simp only [Act.put, List.getElem_toArray, List.getElem_cons_succ, List.getElem_cons_zero, List.setIfInBounds_toArray, List.set_cons_zero, List.set_cons_succ]
            refine wpAnyH_take (i := 3) (oi := _) (v := undef) rfl (by kernel_rfl) (by kernel_rfl) (by kernel_rfl) (fun _ _ _ h => h) (Or.inr ⟨by kernel_rfl, rfl⟩) (by assumption) ?restr13_1_3
            try simp only [Act.put, List.getElem_toArray, List.getElem_cons_succ, List.getElem_cons_zero, List.setIfInBounds_toArray, List.set_cons_zero, List.set_cons_succ]
            refine wpAnyH_take (i := 4) (oi := _) (v := undef) rfl (by kernel_rfl) (by kernel_rfl) (by kernel_rfl) (fun _ _ _ h => h) (Or.inr ⟨by kernel_rfl, rfl⟩) (by assumption) ?restr13_1_4
            try simp only [Act.put, List.getElem_toArray, List.getElem_cons_succ, List.getElem_cons_zero, List.setIfInBounds_toArray, List.set_cons_zero, List.set_cons_succ]
            refine wpAnyH_take (i := 5) (oi := _) (v := undef) rfl (by kernel_rfl) (by kernel_rfl) (by kernel_rfl) (fun _ _ _ h => h) (Or.inr ⟨by kernel_rfl, rfl⟩) (by assumption) ?restr13_1_5
            try simp only [Act.put, List.getElem_toArray, List.getElem_cons_succ, List.getElem_cons_zero, List.setIfInBounds_toArray, List.set_cons_zero, List.set_cons_succ]
            refine wpAnyH_take (i := 6) (oi := _) (v := undef) rfl (by kernel_rfl) (by kernel_rfl) (by kernel_rfl) (fun _ _ _ h => h) (Or.inr ⟨by kernel_rfl, rfl⟩) (by assumption) ?restr13_1_6
            try simp only [Act.put, List.getElem_toArray, List.getElem_cons_succ, List.getElem_cons_zero, List.setIfInBounds_toArray, List.set_cons_zero, List.set_cons_succ]
            refine wpAnyH_take (i := 7) (oi := _) (v := undef) rfl (by kernel_rfl) (by kernel_rfl) (by kernel_rfl) (fun _ _ _ h => h) (Or.inr ⟨by kernel_rfl, rfl⟩) (by assumption) ?restr13_1_7
            try simp only [Act.put, List.getElem_toArray, List.getElem_cons_succ, List.getElem_cons_zero, List.setIfInBounds_toArray, List.set_cons_zero, List.set_cons_succ]
            refine wpAnyH_take (i := 8) (oi := _) (v := undef) rfl (by kernel_rfl) (by kernel_rfl) (by kernel_rfl) (fun _ _ _ h => h) (Or.inr ⟨by kernel_rfl, rfl⟩) (by assumption) ?restr13_1_8
            try simp only [Act.put, List.getElem_toArray, List.getElem_cons_succ, List.getElem_cons_zero, List.setIfInBounds_toArray, List.set_cons_zero, List.set_cons_succ]
            refine wpAnyH_take (i := 9) (oi := _) (v := undef) rfl (by kernel_rfl) (by kernel_rfl) (by kernel_rfl) (fun _ _ _ h => h) (Or.inr ⟨by kernel_rfl, rfl⟩) (by assumption) ?restr13_1_9
            try simp only [Act.put, List.getElem_toArray, List.getElem_cons_succ, List.getElem_cons_zero, List.setIfInBounds_toArray, List.set_cons_zero, List.set_cons_succ]
            refine wpAnyH_take (i := 10) (oi := _) (v := undef) rfl (by kernel_rfl) (by kernel_rfl) (by kernel_rfl) (fun _ _ _ h => h) (Or.inr ⟨by kernel_rfl, rfl⟩) (by assumption) ?restr13_1_10
            try simp only [Act.put, List.getElem_toArray, List.getElem_cons_succ, List.getElem_cons_zero, List.setIfInBounds_toArray, List.set_cons_zero, List.set_cons_succ]
            refine wpAnyH_take (i := 11) (oi := _) (v := undef) rfl (by kernel_rfl) (by kernel_rfl) (by kernel_rfl) (fun _ _ _ h => h) (Or.inr ⟨by kernel_rfl, rfl⟩) (by assumption) ?restr13_1_11
            try simp only [Act.put, List.getElem_toArray, List.getElem_cons_succ, List.getElem_cons_zero, List.setIfInBounds_toArray, List.set_cons_zero, List.set_cons_succ]
            refine wpAnyH_take (i := 12) (oi := _) (v := undef) rfl (by kernel_rfl) (by kernel_rfl) (by kernel_rfl) (fun _ _ _ h => h) (Or.inr ⟨by kernel_rfl, rfl⟩) (by assumption) ?restr13_1_12
            try simp only [Act.put, List.getElem_toArray, List.getElem_cons_succ, List.getElem_cons_zero, List.setIfInBounds_toArray, List.set_cons_zero, List.set_cons_succ]
            refine wpAnyH_take (i := 13) (oi := _) (v := undef) rfl (by kernel_rfl) (by kernel_rfl) (by kernel_rfl) (fun _ _ _ h => h) (Or.inr ⟨by kernel_rfl, rfl⟩) (by assumption) ?restr13_1_13
            try simp only [Act.put, List.getElem_toArray, List.getElem_cons_succ, List.getElem_cons_zero, List.setIfInBounds_toArray, List.set_cons_zero, List.set_cons_succ]
            refine wpAnyH_take (i := 14) (oi := _) (v := undef) rfl (by kernel_rfl) (by kernel_rfl) (by kernel_rfl) (fun _ _ _ h => h) (Or.inr ⟨by kernel_rfl, rfl⟩) (by assumption) ?restr13_1_14
            try simp only [Act.put, List.getElem_toArray, List.getElem_cons_succ, List.getElem_cons_zero, List.setIfInBounds_toArray, List.set_cons_zero, List.set_cons_succ]
            refine wpAnyH_take (i := 15) (oi := _) (v := undef) rfl (by kernel_rfl) (by kernel_rfl) (by kernel_rfl) (fun _ _ _ h => h) (Or.inr ⟨by kernel_rfl, rfl⟩) (by assumption) ?restr13_1_15
            try simp only [Act.put, List.getElem_toArray, List.getElem_cons_succ, List.getElem_cons_zero, List.setIfInBounds_toArray, List.set_cons_zero, List.set_cons_succ]
            refine wpAnyH_take (i := 16) (oi := _) (v := undef) rfl (by kernel_rfl) (by kernel_rfl) (by kernel_rfl) (fun _ _ _ h => h) (Or.inr ⟨by kernel_rfl, rfl⟩) (by assumption) ?restr13_1_16
            try simp only [Act.put, List.getElem_toArray, List.getElem_cons_succ, List.getElem_cons_zero, List.setIfInBounds_toArray, List.set_cons_zero, List.set_cons_succ]
            refine wpAnyH_take (i := 17) (oi := _) (v := undef) rfl (by kernel_rfl) (by kernel_rfl) (by kernel_rfl) (fun _ _ _ h => h) (Or.inr ⟨by kernel_rfl, rfl⟩) (by assumption) ?restr13_1_17
            try simp only [Act.put, List.getElem_toArray, List.getElem_cons_succ, List.getElem_cons_zero, List.setIfInBounds_toArray, List.set_cons_zero, List.set_cons_succ]
            refine wpAnyH_take (i := 18) (oi := _) (v := undef) rfl (by kernel_rfl) (by kernel_rfl) (by kernel_rfl) (fun _ _ _ h => h) (Or.inr ⟨by kernel_rfl, rfl⟩) (by assumption) ?restr13_1_18
            try simp only [Act.put, List.getElem_toArray, List.getElem_cons_succ, List.getElem_cons_zero, List.setIfInBounds_toArray, List.set_cons_zero, List.set_cons_succ]
            refine wpAnyH_take (i := 19) (oi := _) (v := ?vr13_1_19) rfl (by kernel_rfl) (by kernel_rfl) (by kernel_rfl) ?hqr13_1_19 (Or.inl ⟨by kernel_rfl, ?hyr13_1_19⟩) (by assumption) ?restr13_1_19
            case hqr13_1_19 => exact fun _ _ _ h => h
            case hyr13_1_19 => (intro w hSw; (try dsimp only at hSw); go_simp; try with_reducible rfl)
            try simp only [Act.put, List.getElem_toArray, List.getElem_cons_succ, List.getElem_cons_zero, List.setIfInBounds_toArray, List.set_cons_zero, List.set_cons_succ]
            refine wpAnyH_take (i := 20) (oi := _) (v := ?vr13_1_20) rfl (by kernel_rfl) (by kernel_rfl) (by kernel_rfl) ?hqr13_1_20 (Or.inl ⟨by kernel_rfl, ?hyr13_1_20⟩) (by assumption) ?restr13_1_20
            case hqr13_1_20 => exact fun _ _ _ h => h
            case hyr13_1_20 => (intro w hSw; (try dsimp only at hSw); go_simp; try with_reducible rfl)
            try simp only [Act.put, List.getElem_toArray, List.getElem_cons_succ, List.getElem_cons_zero, List.setIfInBounds_toArray, List.set_cons_zero, List.set_cons_succ]
            refine wpAnyH_done (by kernel_rfl) ?_ _
            refine NoPanic.normal ?_
            go_wp2
            refine wp_region_noPanic ?_
            refine wp_region_held_drew (S := (fun V : World => Bel w5 V)) (by kernel_rfl) ?_ (fun hHr14_0 => ?_)
            · (try dsimp only); (first | assumption | exact (Bel.refl w5).drew.drew)
            refine wpAnyH_take (i := 0) (oi := _) (v := ?vr14_1_0) rfl (by kernel_rfl) (by kernel_rfl) (by kernel_rfl) ?hqr14_1_0 (Or.inl ⟨by kernel_rfl, ?hyr14_1_0⟩) (by assumption) ?restr14_1_0
            case hqr14_1_0 => exact fun _ _ _ h => h
            case hyr14_1_0 => (intro w hSw; (try dsimp only at hSw); go_simp; try with_reducible rfl)
            try simp only [Act.put, List.getElem_toArray, List.getElem_cons_succ, List.getElem_cons_zero, List.setIfInBounds_toArray, List.set_cons_zero, List.set_cons_succ]
            refine wpAnyH_take (i := 1) (oi := _) (v := ?vr14_1_1) rfl (by kernel_rfl) (by kernel_rfl) (by kernel_rfl) ?hqr14_1_1 (Or.inl ⟨by kernel_rfl, ?hyr14_1_1⟩) (by assumption) ?restr14_1_1
            case hqr14_1_1 => exact fun _ _ _ h => h
            case hyr14_1_1 => (intro w hSw; (try dsimp only at hSw); go_simp; try with_reducible rfl)
            try simp only [Act.put, List.getElem_toArray, List.getElem_cons_succ, List.getElem_cons_zero, List.setIfInBounds_toArray, List.set_cons_zero, List.set_cons_succ]
            refine wpAnyH_take (i := 2) (oi := _) (v := ?vr14_1_2) rfl (by kernel_rfl) (by kernel_rfl) (by kernel_rfl) ?hqr14_1_2 (Or.inl ⟨by kernel_rfl, ?hyr14_1_2⟩) (by assumption) ?restr14_1_2
            case hqr14_1_2 => exact fun _ _ _ h => h
            case hyr14_1_2 => (intro w hSw; (try dsimp only at hSw); go_simp; try with_reducible rfl)
            try simp only [Act.put, List.getElem_toArray, List.getElem_cons_succ, List.getElem_cons_zero, List.setIfInBounds_toArray, List.set_cons_zero, List.set_cons_succ]
            refine wpAnyH_take (i := 3) (oi := _) (v := undef) rfl (by kernel_rfl) (by kernel_rfl) (by kernel_rfl) (fun _ _ _ h => h) (Or.inr ⟨by kernel_rfl, rfl⟩) (by assumption) ?restr14_1_3
            try simp only [Act.put, List.getElem_toArray, List.getElem_cons_succ, List.getElem_cons_zero, List.setIfInBounds_toArray, List.set_cons_zero, List.set_cons_succ]
            refine wpAnyH_take (i := 4) (oi := _) (v := undef) rfl (by kernel_rfl) (by kernel_rfl) (by kernel_rfl) (fun _ _ _ h => h) (Or.inr ⟨by kernel_rfl, rfl⟩) (by assumption) ?restr14_1_4
            try simp only [Act.put, List.getElem_toArray, List.getElem_cons_succ, List.getElem_cons_zero, List.setIfInBounds_toArray, List.set_cons_zero, List.set_cons_succ]
            refine wpAnyH_take (i := 5) (oi := _) (v := undef) rfl (by kernel_rfl) (by kernel_rfl) (by kernel_rfl) (fun _ _ _ h => h) (Or.inr ⟨by kernel_rfl, rfl⟩) (by assumption) ?restr14_1_5
            try simp only [Act.put, List.getElem_toArray, List.getElem_cons_succ, List.getElem_cons_zero, List.setIfInBounds_toArray, List.set_cons_zero, List.set_cons_succ]
            refine wpAnyH_take (i := 6) (oi := _) (v := undef) rfl (by kernel_rfl) (by kernel_rfl) (by kernel_rfl) (fun _ _ _ h => h) (Or.inr ⟨by kernel_rfl, rfl⟩) (by assumption) ?restr14_1_6
            try simp only [Act.put, List.getElem_toArray, List.getElem_cons_succ, List.getElem_cons_zero, List.setIfInBounds_toArray, List.set_cons_zero, List.set_cons_succ]
            refine wpAnyH_take (i := 7) (oi := _) (v := undef) rfl (by kernel_rfl) (by kernel_rfl) (by kernel_rfl) (fun _ _ _ h => h) (Or.inr ⟨by kernel_rfl, rfl⟩) (by assumption) ?restr14_1_7
            try simp only [Act.put, List.getElem_toArray, List.getElem_cons_succ, List.getElem_cons_zero, List.setIfInBounds_toArray, List.set_cons_zero, List.set_cons_succ]
            refine wpAnyH_take (i := 8) (oi := _) (v := undef) rfl (by kernel_rfl) (by kernel_rfl) (by kernel_rfl) (fun _ _ _ h => h) (Or.inr ⟨by kernel_rfl, rfl⟩) (by assumption) ?restr14_1_8
            try simp only [Act.put, List.getElem_toArray, List.getElem_cons_succ, List.getElem_cons_zero, List.setIfInBounds_toArray, List.set_cons_zero, List.set_cons_succ]
            refine wpAnyH_take (i := 9) (oi := _) (v := ?vr14_1_9) rfl (by kernel_rfl) (by kernel_rfl) (by kernel_rfl) ?hqr14_1_9 (Or.inl ⟨by kernel_rfl, ?hyr14_1_9⟩) (by assumption) ?restr14_1_9
            case hqr14_1_9 => exact fun _ _ _ h => h
            case hyr14_1_9 => (intro w hSw; (try dsimp only at hSw); go_simp; try with_reducible rfl)
            try simp only [Act.put, List.getElem_toArray, List.getElem_cons_succ, List.getElem_cons_zero, List.setIfInBounds_toArray, List.set_cons_zero, List.set_cons_succ]
            refine wpAnyH_take (i := 10) (oi := _) (v := ?vr14_1_10) rfl (by kernel_rfl) (by kernel_rfl) (by kernel_rfl) ?hqr14_1_10 (Or.inl ⟨by kernel_rfl, ?hyr14_1_10⟩) (by assumption) ?restr14_1_10
            case hqr14_1_10 => exact fun _ _ _ h => h
            case hyr14_1_10 => (intro w hSw; (try dsimp only at hSw); go_simp; try with_reducible rfl)
            try simp only [Act.put, List.getElem_toArray, List.getElem_cons_succ, List.getElem_cons_zero, List.setIfInBounds_toArray, List.set_cons_zero, List.set_cons_succ]
            refine wpAnyH_done (by kernel_rfl) ?_ _
            refine NoPanic.normal ?_
            go_wp2
            go_ret
            exact ⟨by rw [HR1.out]; rfl, hB5.then_ (Bel.refl w5).drew.drew⟩
          · have HR1 : Hid (R = if (b.size : Int) ≤ z then 0 else 133) := by show _ = _; rw [hR1]; unfold fitB; simp only [show ¬ ((4 : Int) = 0) by decide, if_false, if_true, show ¬ ((4 : Int) = 1) by decide, show ¬ ((4 : Int) = 2) by decide, show ¬ ((4 : Int) = 3) by decide]; split <;> simp_all
            clear hR1 HSZ
            by_cases hl : z < (b.size : Int)
            · have hR2 : R = 133 := by rw [HR1.out, if_neg (by omega)]
              go_enter Tryz.func24, Tryz.ntmps24
              go_wp2_with (first | (go_at_call 56; refine (HCO.out _).mono ?_; rintro e w4 ⟨rfl, hb4⟩; obtain ⟨⟨a0, a1, a2, a3, c0, c1, c2, c3⟩, hB4⟩ := HCL.out _ hb4) | (go_at_call 57; refine (HCH.out _).mono ?_; rintro e w5 ⟨rfl, hb5⟩; obtain ⟨⟨d0, d1, d2, d3, e0, e1, e2, e3⟩, hB5⟩ := HCL.out _ (hb4.then_ hb5)))
              refine wp_region_noPanic ?_
              refine wp_region_held_drew (S := (fun V : World => Bel w5 V)) (by kernel_rfl) ?_ (fun hHr15_0 => ?_)
              · (try dsimp only); (first | assumption | exact (Bel.refl w5).drew)
              refine wpAnyH_take (i := 0) (oi := _) (v := ?vr15_1_0) rfl (by kernel_rfl) (by kernel_rfl) (by kernel_rfl) ?hqr15_1_0 (Or.inl ⟨by kernel_rfl, ?hyr15_1_0⟩) (by assumption) ?restr15_1_0
              case hqr15_1_0 => exact fun _ _ _ h => h
              case hyr15_1_0 => (intro w hSw; (try dsimp only at hSw); go_simp; try with_reducible rfl)
              try simp only [Act.put, List.getElem_toArray, List.getElem_cons_succ, List.getElem_cons_zero, List.setIfInBounds_toArray, List.set_cons_zero, List.set_cons_succ]
              refine wpAnyH_take (i := 1) (oi := _) (v := ?vr15_1_1) rfl (by kernel_rfl) (by kernel_rfl) (by kernel_rfl) ?hqr15_1_1 (Or.inl ⟨by kernel_rfl, ?hyr15_1_1⟩) (by assumption) ?restr15_1_1
              case hqr15_1_1 => exact fun _ _ _ h => h
              case hyr15_1_1 => (intro w hSw; (try dsimp only at hSw); go_simp; try with_reducible rfl)
              try simp only [Act.put, List.getElem_toArray, List.getElem_cons_succ, List.getElem_cons_zero, List.setIfInBounds_toArray, List.set_cons_zero, List.set_cons_succ]
              refine wpAnyH_take (i := 2) (oi := _) (v := ?vr15_1_2) rfl (by kernel_rfl) (by kernel_rfl) (by kernel_rfl) ?hqr15_1_2 (Or.inl ⟨by kernel_rfl, ?hyr15_1_2⟩) (by assumption) ?restr15_1_2
              case hqr15_1_2 => exact fun _ _ _ h => h
              case hyr15_1_2 => (intro w hSw; (try dsimp only at hSw); go_simp; try with_reducible rfl)
              try simp only [Act.put, List.getElem_toArray, List.getElem_cons_succ, List.getElem_cons_zero, List.setIfInBounds_toArray, List.set_cons_zero, List.set_cons_succ]
              refine wpAnyH_take (i := 3) (oi := _) (v := undef) rfl (by kernel_rfl) (by kernel_rfl) (by kernel_rfl) (fun _ _ _ h => h) (Or.inr ⟨by kernel_rfl, rfl⟩) (by assumption) ?restr15_1_3
              try simp only [Act.put, List.getElem_toArray, List.getElem_cons_succ, List.getElem_cons_zero, List.setIfInBounds_toArray, List.set_cons_zero, List.set_cons_succ]
              refine wpAnyH_take (i := 4) (oi := _) (v := undef) rfl (by kernel_rfl) (by kernel_rfl) (by kernel_rfl) (fun _ _ _ h => h) (Or.inr ⟨by kernel_rfl, rfl⟩) (by assumption) ?restr15_1_4
              try simp only [Act.put, List.getElem_toArray, List.getElem_cons_succ, List.getElem_cons_zero, List.setIfInBounds_toArray, List.set_cons_zero, List.set_cons_succ]
              refine wpAnyH_take (i := 5) (oi := _) (v := undef) rfl (by kernel_rfl) (by kernel_rfl) (by kernel_rfl) (fun _ _ _ h => h) (Or.inr ⟨by kernel_rfl, rfl⟩) (by assumption) ?restr15_1_5
              try simp only [Act.put, List.getElem_toArray, List.getElem_cons_succ, List.getElem_cons_zero, List.setIfInBounds_toArray, List.set_cons_zero, List.set_cons_succ]
              refine wpAnyH_take (i := 6) (oi := _) (v := undef) rfl (by kernel_rfl) (by kernel_rfl) (by kernel_rfl) (fun _ _ _ h => h) (Or.inr ⟨by kernel_rfl, rfl⟩) (by assumption) ?restr15_1_6
              try simp only [Act.put, List.getElem_toArray, List.getElem_cons_succ, List.getElem_cons_zero, List.setIfInBounds_toArray, List.set_cons_zero, List.set_cons_succ]
              refine wpAnyH_take (i := 7) (oi := _) (v := undef) rfl (by kernel_rfl) (by kernel_rfl) (by kernel_rfl) (fun _ _ _ h => h) (Or.inr ⟨by kernel_rfl, rfl⟩) (by assumption) ?restr15_1_7
              try simp only [Act.put, List.getElem_toArray, List.getElem_cons_succ, List.getElem_cons_zero, List.setIfInBounds_toArray, List.set_cons_zero, List.set_cons_succ]
              refine wpAnyH_take (i := 8) (oi := _) (v := undef) rfl (by kernel_rfl) (by kernel_rfl) (by kernel_rfl) (fun _ _ _ h => h) (Or.inr ⟨by kernel_rfl, rfl⟩) (by assumption) ?restr15_1_8
              try simp only [Act.put, List.getElem_toArray, List.getElem_cons_succ, List.getElem_cons_zero, List.setIfInBounds_toArray, List.set_cons_zero, List.set_cons_succ]
              refine wpAnyH_take (i := 9) (oi := _) (v := undef) rfl (by kernel_rfl) (by kernel_rfl) (by kernel_rfl) (fun _ _ _ h => h) (Or.inr ⟨by kernel_rfl, rfl⟩) (by assumption) ?restr15_1_9
              try simp only [Act.put, List.getElem_toArray, List.getElem_cons_succ, List.getElem_cons_zero, List.setIfInBounds_toArray, List.set_cons_zero, List.set_cons_succ]
              refine wpAnyH_take (i := 10) (oi := _) (v := undef) rfl (by kernel_rfl) (by kernel_rfl) (by kernel_rfl) (fun _ _ _ h => h) (Or.inr ⟨by kernel_rfl, rfl⟩) (by assumption) ?restr15_1_10
              try simp only [Act.put, List.getElem_toArray, List.getElem_cons_succ, List.getElem_cons_zero, List.setIfInBounds_toArray, List.set_cons_zero, List.set_cons_succ]
              refine wpAnyH_take (i := 11) (oi := _) (v := undef) rfl (by kernel_rfl) (by kernel_rfl) (by kernel_rfl) (fun _ _ _ h => h) (Or.inr ⟨by kernel_rfl, rfl⟩) (by assumption) ?restr15_1_11
              try simp only [Act.put, List.getElem_toArray, List.getElem_cons_succ, List.getElem_cons_zero, List.setIfInBounds_toArray, List.set_cons_zero, List.set_cons_succ]
              refine wpAnyH_take (i := 12) (oi := _) (v := undef) rfl (by kernel_rfl) (by kernel_rfl) (by kernel_rfl) (fun _ _ _ h => h) (Or.inr ⟨by kernel_rfl, rfl⟩) (by assumption) ?restr15_1_12
              try simp only [Act.put, List.getElem_toArray, List.getElem_cons_succ, List.getElem_cons_zero, List.setIfInBounds_toArray, List.set_cons_zero, List.set_cons_succ]
              refine wpAnyH_take (i := 13) (oi := _) (v := undef) rfl (by kernel_rfl) (by kernel_rfl) (by kernel_rfl) (fun _ _ _ h => h) (Or.inr ⟨by kernel_rfl, rfl⟩) (by assumption) ?restr15_1_13
              try simp only [Act.put, List.getElem_toArray, List.getElem_cons_succ, List.getElem_cons_zero, List.setIfInBounds_toArray, List.set_cons_zero, List.set_cons_succ]
              refine wpAnyH_take (i := 14) (oi := _) (v := undef) rfl (by kernel_rfl) (by kernel_rfl) (by kernel_rfl) (fun _ _ _ h => h) (Or.inr ⟨by kernel_rfl, rfl⟩) (by assumption) ?restr15_1_14
              try simp only [Act.put, List.getElem_toArray, List.getElem_cons_succ, List.getElem_cons_zero, List.setIfInBounds_toArray, List.set_cons_zero, List.set_cons_succ]
              refine wpAnyH_take (i := 15) (oi := _) (v := undef) rfl (by kernel_rfl) (by kernel_rfl) (by kernel_rfl) (fun _ _ _ h => h) (Or.inr ⟨by kernel_rfl, rfl⟩) (by assumption) ?restr15_1_15
              try simp only [Act.put, List.getElem_toArray, List.getElem_cons_succ, List.getElem_cons_zero, List.setIfInBounds_toArray, List.set_cons_zero, List.set_cons_succ]
              refine wpAnyH_take (i := 16) (oi := _) (v := undef) rfl (by kernel_rfl) (by kernel_rfl) (by kernel_rfl) (fun _ _ _ h => h) (Or.inr ⟨by kernel_rfl, rfl⟩) (by assumption) ?restr15_1_16
              try simp only [Act.put, List.getElem_toArray, List.getElem_cons_succ, List.getElem_cons_zero, List.setIfInBounds_toArray, List.set_cons_zero, List.set_cons_succ]
              refine wpAnyH_take (i := 17) (oi := _) (v := undef) rfl (by kernel_rfl) (by kernel_rfl) (by kernel_rfl) (fun _ _ _ h => h) (Or.inr ⟨by kernel_rfl, rfl⟩) (by assumption) ?restr15_1_17
              try simp only [Act.put, List.getElem_toArray, List.getElem_cons_succ, List.getElem_cons_zero, List.setIfInBounds_toArray, List.set_cons_zero, List.set_cons_succ]
              refine wpAnyH_take (i := 18) (oi := _) (v := undef) rfl (by kernel_rfl) (by kernel_rfl) (by kernel_rfl) (fun _ _ _ h => h) (Or.inr ⟨by kernel_rfl, rfl⟩) (by assumption) ?restr15_1_18
              try simp only [Act.put, List.getElem_toArray, List.getElem_cons_succ, List.getElem_cons_zero, List.setIfInBounds_toArray, List.set_cons_zero, List.set_cons_succ]
              refine wpAnyH_take (i := 19) (oi := _) (v := ?vr15_1_19) rfl (by kernel_rfl) (by kernel_rfl) (by kernel_rfl) ?hqr15_1_19 (Or.inl ⟨by kernel_rfl, ?hyr15_1_19⟩) (by assumption) ?restr15_1_19
              case hqr15_1_19 => exact fun _ _ _ h => h
              case hyr15_1_19 => (intro w hSw; (try dsimp only at hSw); go_simp; try with_reducible rfl)
              try simp only [Act.put, List.getElem_toArray, List.getElem_cons_succ, List.getElem_cons_zero, List.setIfInBounds_toArray, List.set_cons_zero, List.set_cons_succ]
              refine wpAnyH_take (i := 20) (oi := _) (v := ?vr15_1_20) rfl (by kernel_rfl) (by kernel_rfl) (by kernel_rfl) ?hqr15_1_20 (Or.inl ⟨by kernel_rfl, ?hyr15_1_20⟩) (by assumption) ?restr15_1_20
              case hqr15_1_20 => exact fun _ _ _ h => h
              case hyr15_1_20 => (intro w hSw; (try dsimp only at hSw); go_simp; try with_reducible rfl)
              try simp only [Act.put, List.getElem_toArray, List.getElem_cons_succ, List.getElem_cons_zero, List.setIfInBounds_toArray, List.set_cons_zero, List.set_cons_succ]
              refine wpAnyH_done (by kernel_rfl) ?_ _
              refine NoPanic.normal ?_
              go_wp2
              refine wp_region_noPanic ?_
              refine wp_region_held_drew (S := (fun V : World => Bel w5 V)) (by kernel_rfl) ?_ (fun hHr16_0 => ?_)
              · (try dsimp only); (first | assumption | exact (Bel.refl w5).drew.drew)
              refine wpAnyH_take (i := 0) (oi := _) (v := ?vr16_1_0) rfl (by kernel_rfl) (by kernel_rfl) (by kernel_rfl) ?hqr16_1_0 (Or.inl ⟨by kernel_rfl, ?hyr16_1_0⟩) (by assumption) ?restr16_1_0
              case hqr16_1_0 => exact fun _ _ _ h => h
              case hyr16_1_0 => (intro w hSw; (try dsimp only at hSw); go_simp; try with_reducible rfl)
              try simp only [Act.put, List.getElem_toArray, List.getElem_cons_succ, List.getElem_cons_zero, List.setIfInBounds_toArray, List.set_cons_zero, List.set_cons_succ]
              refine wpAnyH_take (i := 1) (oi := _) (v := ?vr16_1_1) rfl (by kernel_rfl) (by kernel_rfl) (by kernel_rfl) ?hqr16_1_1 (Or.inl ⟨by kernel_rfl, ?hyr16_1_1⟩) (by assumption) ?restr16_1_1
              case hqr16_1_1 => exact fun _ _ _ h => h
              case hyr16_1_1 => (intro w hSw; (try dsimp only at hSw); go_simp; try with_reducible rfl)
              try simp only [Act.put, List.getElem_toArray, List.getElem_cons_succ, List.getElem_cons_zero, List.setIfInBounds_toArray, List.set_cons_zero, List.set_cons_succ]
              refine wpAnyH_take (i := 2) (oi := _) (v := ?vr16_1_2) rfl (by kernel_rfl) (by kernel_rfl) (by kernel_rfl) ?hqr16_1_2 (Or.inl ⟨by kernel_rfl, ?hyr16_1_2⟩) (by assumption) ?restr16_1_2
              case hqr16_1_2 => exact fun _ _ _ h => h
              case hyr16_1_2 => (intro w hSw; (try dsimp only at hSw); go_simp; try with_reducible rfl)
              try simp only [Act.put, List.getElem_toArray, List.getElem_cons_succ, List.getElem_cons_zero, List.setIfInBounds_toArray, List.set_cons_zero, List.set_cons_succ]
              refine wpAnyH_take (i := 3) (oi := _) (v := undef) rfl (by kernel_rfl) (by kernel_rfl) (by kernel_rfl) (fun _ _ _ h => h) (Or.inr ⟨by kernel_rfl, rfl⟩) (by assumption) ?restr16_1_3
              try simp only [Act.put, List.getElem_toArray, List.getElem_cons_succ, List.getElem_cons_zero, List.setIfInBounds_toArray, List.set_cons_zero, List.set_cons_succ]
              refine wpAnyH_take (i := 4) (oi := _) (v := undef) rfl (by kernel_rfl) (by kernel_rfl) (by kernel_rfl) (fun _ _ _ h => h) (Or.inr ⟨by kernel_rfl, rfl⟩) (by assumption) ?restr16_1_4
              try simp only [Act.put, List.getElem_toArray, List.getElem_cons_succ, List.getElem_cons_zero, List.setIfInBounds_toArray, List.set_cons_zero, List.set_cons_succ]
              refine wpAnyH_take (i := 5) (oi := _) (v := undef) rfl (by kernel_rfl) (by kernel_rfl) (by kernel_rfl) (fun _ _ _ h => h) (Or.inr ⟨by kernel_rfl, rfl⟩) (by assumption) ?restr16_1_5
              try simp only [Act.put, List.getElem_toArray, List.getElem_cons_succ, List.getElem_cons_zero, List.setIfInBounds_toArray, List.set_cons_zero, List.set_cons_succ]
              refine wpAnyH_take (i := 6) (oi := _) (v := undef) rfl (by kernel_rfl) (by kernel_rfl) (by kernel_rfl) (fun _ _ _ h => h) (Or.inr ⟨by kernel_rfl, rfl⟩) (by assumption) ?restr16_1_6
              try simp only [Act.put, List.getElem_toArray, List.getElem_cons_succ, List.getElem_cons_zero, List.setIfInBounds_toArray, List.set_cons_zero, List.set_cons_succ]
              refine wpAnyH_take (i := 7) (oi := _) (v := undef) rfl (by kernel_rfl) (by kernel_rfl) (by kernel_rfl) (fun _ _ _ h => h) (Or.inr ⟨by kernel_rfl, rfl⟩) (by assumption) ?restr16_1_7
              try simp only [Act.put, List.getElem_toArray, List.getElem_cons_succ, List.getElem_cons_zero, List.setIfInBounds_toArray, List.set_cons_zero, List.set_cons_succ]
              refine wpAnyH_take (i := 8) (oi := _) (v := undef) rfl (by kernel_rfl) (by kernel_rfl) (by kernel_rfl) (fun _ _ _ h => h) (Or.inr ⟨by kernel_rfl, rfl⟩) (by assumption) ?restr16_1_8
              try simp only [Act.put, List.getElem_toArray, List.getElem_cons_succ, List.getElem_cons_zero, List.setIfInBounds_toArray, List.set_cons_zero, List.set_cons_succ]
              refine wpAnyH_take (i := 9) (oi := _) (v := ?vr16_1_9) rfl (by kernel_rfl) (by kernel_rfl) (by kernel_rfl) ?hqr16_1_9 (Or.inl ⟨by kernel_rfl, ?hyr16_1_9⟩) (by assumption) ?restr16_1_9
              case hqr16_1_9 => exact fun _ _ _ h => h
              case hyr16_1_9 => (intro w hSw; (try dsimp only at hSw); go_simp; try with_reducible rfl)
              try simp only [Act.put, List.getElem_toArray, List.getElem_cons_succ, List.getElem_cons_zero, List.setIfInBounds_toArray, List.set_cons_zero, List.set_cons_succ]
              refine wpAnyH_take (i := 10) (oi := _) (v := ?vr16_1_10) rfl (by kernel_rfl) (by kernel_rfl) (by kernel_rfl) ?hqr16_1_10 (Or.inl ⟨by kernel_rfl, ?hyr16_1_10⟩) (by assumption) ?restr16_1_10
              case hqr16_1_10 => exact fun _ _ _ h => h
              case hyr16_1_10 => (intro w hSw; (try dsimp only at hSw); go_simp; try with_reducible rfl)
              try simp only [Act.put, List.getElem_toArray, List.getElem_cons_succ, List.getElem_cons_zero, List.setIfInBounds_toArray, List.set_cons_zero, List.set_cons_succ]
              refine wpAnyH_done (by kernel_rfl) ?_ _
              refine NoPanic.normal ?_
              go_wp2
              go_ret
              exact ⟨by rw [hR2]; rfl, hB5.then_ (Bel.refl w5).drew.drew⟩
            · have hlb : decide (z < (b.size : Int)) = false := by simp; omega
              have hR2 : R = 0 := by rw [HR1.out, if_pos (by omega)]
              go_enter Tryz.func24, Tryz.ntmps24
              go_wp2_with (first | (go_at_call 56; refine (HCO.out _).mono ?_; rintro e w4 ⟨rfl, hb4⟩; obtain ⟨⟨a0, a1, a2, a3, c0, c1, c2, c3⟩, hB4⟩ := HCL.out _ hb4) | (go_at_call 57; refine (HCH.out _).mono ?_; rintro e w5 ⟨rfl, hb5⟩; obtain ⟨⟨d0, d1, d2, d3, e0, e1, e2, e3⟩, hB5⟩ := HCL.out _ (hb4.then_ hb5)))
              refine wp_region_noPanic ?_
              refine wp_region_held_drew (S := (fun V : World => Bel w5 V)) (by kernel_rfl) ?_ (fun hHr17_0 => ?_)
              · (try dsimp only); (first | assumption | exact (Bel.refl w5).drew)
              refine wpAnyH_take (i := 0) (oi := _) (v := ?vr17_1_0) rfl (by kernel_rfl) (by kernel_rfl) (by kernel_rfl) ?hqr17_1_0 (Or.inl ⟨by kernel_rfl, ?hyr17_1_0⟩) (by assumption) ?restr17_1_0
              case hqr17_1_0 => exact fun _ _ _ h => h
              case hyr17_1_0 => (intro w hSw; (try dsimp only at hSw); go_simp; try with_reducible rfl)
              try simp only [Act.put, List.getElem_toArray, List.getElem_cons_succ, List.getElem_cons_zero, List.setIfInBounds_toArray, List.set_cons_zero, List.set_cons_succ]
              refine wpAnyH_take (i := 1) (oi := _) (v := ?vr17_1_1) rfl (by kernel_rfl) (by kernel_rfl) (by kernel_rfl) ?hqr17_1_1 (Or.inl ⟨by kernel_rfl, ?hyr17_1_1⟩) (by assumption) ?restr17_1_1
              case hqr17_1_1 => exact fun _ _ _ h => h
              case hyr17_1_1 => (intro w hSw; (try dsimp only at hSw); go_simp; try with_reducible rfl)
              try simp only [Act.put, List.getElem_toArray, List.getElem_cons_succ, List.getElem_cons_zero, List.setIfInBounds_toArray, List.set_cons_zero, List.set_cons_succ]
              refine wpAnyH_take (i := 2) (oi := _) (v := ?vr17_1_2) rfl (by kernel_rfl) (by kernel_rfl) (by kernel_rfl) ?hqr17_1_2 (Or.inl ⟨by kernel_rfl, ?hyr17_1_2⟩) (by assumption) ?restr17_1_2
              case hqr17_1_2 => exact fun _ _ _ h => h
              case hyr17_1_2 => (intro w hSw; (try dsimp only at hSw); go_simp; try with_reducible rfl)
              try simp only [Act.put, List.getElem_toArray, List.getElem_cons_succ, List.getElem_cons_zero, List.setIfInBounds_toArray, List.set_cons_zero, List.set_cons_succ]
              refine wpAnyH_take (i := 3) (oi := _) (v := undef) rfl (by kernel_rfl) (by kernel_rfl) (by kernel_rfl) (fun _ _ _ h => h) (Or.inr ⟨by kernel_rfl, rfl⟩) (by assumption) ?restr17_1_3
              try simp only [Act.put, List.getElem_toArray, List.getElem_cons_succ, List.getElem_cons_zero, List.setIfInBounds_toArray, List.set_cons_zero, List.set_cons_succ]
              refine wpAnyH_take (i := 4) (oi := _) (v := undef) rfl (by kernel_rfl) (by kernel_rfl) (by kernel_rfl) (fun _ _ _ h => h) (Or.inr ⟨by kernel_rfl, rfl⟩) (by assumption) ?restr17_1_4
              try simp only [Act.put, List.getElem_toArray, List.getElem_cons_succ, List.getElem_cons_zero, List.setIfInBounds_toArray, List.set_cons_zero, List.set_cons_succ]
              refine wpAnyH_take (i := 5) (oi := _) (v := undef) rfl (by kernel_rfl) (by kernel_rfl) (by kernel_rfl) (fun _ _ _ h => h) (Or.inr ⟨by kernel_rfl, rfl⟩) (by assumption) ?restr17_1_5
              try simp only [Act.put, List.getElem_toArray, List.getElem_cons_succ, List.getElem_cons_zero, List.setIfInBounds_toArray, List.set_cons_zero, List.set_cons_succ]
              refine wpAnyH_take (i := 6) (oi := _) (v := undef) rfl (by kernel_rfl) (by kernel_rfl) (by kernel_rfl) (fun _ _ _ h => h) (Or.inr ⟨by kernel_rfl, rfl⟩) (by assumption) ?restr17_1_6
              try simp only [Act.put, List.getElem_toArray, List.getElem_cons_succ, List.getElem_cons_zero, List.setIfInBounds_toArray, List.set_cons_zero, List.set_cons_succ]
              refine wpAnyH_take (i := 7) (oi := _) (v := undef) rfl (by kernel_rfl) (by kernel_rfl) (by kernel_rfl) (fun _ _ _ h => h) (Or.inr ⟨by kernel_rfl, rfl⟩) (by assumption) ?restr17_1_7
              try simp only [Act.put, List.getElem_toArray, List.getElem_cons_succ, List.getElem_cons_zero, List.setIfInBounds_toArray, List.set_cons_zero, List.set_cons_succ]
              refine wpAnyH_take (i := 8) (oi := _) (v := undef) rfl (by kernel_rfl) (by kernel_rfl) (by kernel_rfl) (fun _ _ _ h => h) (Or.inr ⟨by kernel_rfl, rfl⟩) (by assumption) ?restr17_1_8
              try simp only [Act.put, List.getElem_toArray, List.getElem_cons_succ, List.getElem_cons_zero, List.setIfInBounds_toArray, List.set_cons_zero, List.set_cons_succ]
              refine wpAnyH_take (i := 9) (oi := _) (v := undef) rfl (by kernel_rfl) (by kernel_rfl) (by kernel_rfl) (fun _ _ _ h => h) (Or.inr ⟨by kernel_rfl, rfl⟩) (by assumption) ?restr17_1_9
              try simp only [Act.put, List.getElem_toArray, List.getElem_cons_succ, List.getElem_cons_zero, List.setIfInBounds_toArray, List.set_cons_zero, List.set_cons_succ]
              refine wpAnyH_take (i := 10) (oi := _) (v := undef) rfl (by kernel_rfl) (by kernel_rfl) (by kernel_rfl) (fun _ _ _ h => h) (Or.inr ⟨by kernel_rfl, rfl⟩) (by assumption) ?restr17_1_10
              try simp only [Act.put, List.getElem_toArray, List.getElem_cons_succ, List.getElem_cons_zero, List.setIfInBounds_toArray, List.set_cons_zero, List.set_cons_succ]
              refine wpAnyH_take (i := 11) (oi := _) (v := undef) rfl (by kernel_rfl) (by kernel_rfl) (by kernel_rfl) (fun _ _ _ h => h) (Or.inr ⟨by kernel_rfl, rfl⟩) (by assumption) ?restr17_1_11
              try simp only [Act.put, List.getElem_toArray, List.getElem_cons_succ, List.getElem_cons_zero, List.setIfInBounds_toArray, List.set_cons_zero, List.set_cons_succ]
              refine wpAnyH_take (i := 12) (oi := _) (v := undef) rfl (by kernel_rfl) (by kernel_rfl) (by kernel_rfl) (fun _ _ _ h => h) (Or.inr ⟨by kernel_rfl, rfl⟩) (by assumption) ?restr17_1_12
              try simp only [Act.put, List.getElem_toArray, List.getElem_cons_succ, List.getElem_cons_zero, List.setIfInBounds_toArray, List.set_cons_zero, List.set_cons_succ]
              refine wpAnyH_take (i := 13) (oi := _) (v := undef) rfl (by kernel_rfl) (by kernel_rfl) (by kernel_rfl) (fun _ _ _ h => h) (Or.inr ⟨by kernel_rfl, rfl⟩) (by assumption) ?restr17_1_13
              try simp only [Act.put, List.getElem_toArray, List.getElem_cons_succ, List.getElem_cons_zero, List.setIfInBounds_toArray, List.set_cons_zero, List.set_cons_succ]
              refine wpAnyH_take (i := 14) (oi := _) (v := undef) rfl (by kernel_rfl) (by kernel_rfl) (by kernel_rfl) (fun _ _ _ h => h) (Or.inr ⟨by kernel_rfl, rfl⟩) (by assumption) ?restr17_1_14
              try simp only [Act.put, List.getElem_toArray, List.getElem_cons_succ, List.getElem_cons_zero, List.setIfInBounds_toArray, List.set_cons_zero, List.set_cons_succ]
              refine wpAnyH_take (i := 15) (oi := _) (v := undef) rfl (by kernel_rfl) (by kernel_rfl) (by kernel_rfl) (fun _ _ _ h => h) (Or.inr ⟨by kernel_rfl, rfl⟩) (by assumption) ?restr17_1_15
              try simp only [Act.put, List.getElem_toArray, List.getElem_cons_succ, List.getElem_cons_zero, List.setIfInBounds_toArray, List.set_cons_zero, List.set_cons_succ]
              refine wpAnyH_take (i := 16) (oi := _) (v := undef) rfl (by kernel_rfl) (by kernel_rfl) (by kernel_rfl) (fun _ _ _ h => h) (Or.inr ⟨by kernel_rfl, rfl⟩) (by assumption) ?restr17_1_16
              try simp only [Act.put, List.getElem_toArray, List.getElem_cons_succ, List.getElem_cons_zero, List.setIfInBounds_toArray, List.set_cons_zero, List.set_cons_succ]
              refine wpAnyH_take (i := 17) (oi := _) (v := undef) rfl (by kernel_rfl) (by kernel_rfl) (by kernel_rfl) (fun _ _ _ h => h) (Or.inr ⟨by kernel_rfl, rfl⟩) (by assumption) ?restr17_1_17
              try simp only [Act.put, List.getElem_toArray, List.getElem_cons_succ, List.getElem_cons_zero, List.setIfInBounds_toArray, List.set_cons_zero, List.set_cons_succ]
              refine wpAnyH_take (i := 18) (oi := _) (v := undef) rfl (by kernel_rfl) (by kernel_rfl) (by kernel_rfl) (fun _ _ _ h => h) (Or.inr ⟨by kernel_rfl, rfl⟩) (by assumption) ?restr17_1_18
              try simp only [Act.put, List.getElem_toArray, List.getElem_cons_succ, List.getElem_cons_zero, List.setIfInBounds_toArray, List.set_cons_zero, List.set_cons_succ]
              refine wpAnyH_take (i := 19) (oi := _) (v := ?vr17_1_19) rfl (by kernel_rfl) (by kernel_rfl) (by kernel_rfl) ?hqr17_1_19 (Or.inl ⟨by kernel_rfl, ?hyr17_1_19⟩) (by assumption) ?restr17_1_19
              case hqr17_1_19 => exact fun _ _ _ h => h
              case hyr17_1_19 => (intro w hSw; (try dsimp only at hSw); go_simp; try with_reducible rfl)
              try simp only [Act.put, List.getElem_toArray, List.getElem_cons_succ, List.getElem_cons_zero, List.setIfInBounds_toArray, List.set_cons_zero, List.set_cons_succ]
              refine wpAnyH_take (i := 20) (oi := _) (v := ?vr17_1_20) rfl (by kernel_rfl) (by kernel_rfl) (by kernel_rfl) ?hqr17_1_20 (Or.inl ⟨by kernel_rfl, ?hyr17_1_20⟩) (by assumption) ?restr17_1_20
              case hqr17_1_20 => exact fun _ _ _ h => h
              case hyr17_1_20 => (intro w hSw; (try dsimp only at hSw); go_simp; try with_reducible rfl)
              try simp only [Act.put, List.getElem_toArray, List.getElem_cons_succ, List.getElem_cons_zero, List.setIfInBounds_toArray, List.set_cons_zero, List.set_cons_succ]
              refine wpAnyH_done (by kernel_rfl) ?_ _
              refine NoPanic.normal ?_
              go_wp2
              refine wp_region_noPanic ?_
              refine wp_region_held_drew (S := (fun V : World => Bel w5 V)) (by kernel_rfl) ?_ (fun hHr18_0 => ?_)
              · (try dsimp only); (first | assumption | exact (Bel.refl w5).drew.drew)
              refine wpAnyH_take (i := 0) (oi := _) (v := ?vr18_1_0) rfl (by kernel_rfl) (by kernel_rfl) (by kernel_rfl) ?hqr18_1_0 (Or.inl ⟨by kernel_rfl, ?hyr18_1_0⟩) (by assumption) ?restr18_1_0
              case hqr18_1_0 => exact fun _ _ _ h => h
              case hyr18_1_0 => (intro w hSw; (try dsimp only at hSw); go_simp; try with_reducible rfl)
              try simp only [Act.put, List.getElem_toArray, List.getElem_cons_succ, List.getElem_cons_zero, List.setIfInBounds_toArray, List.set_cons_zero, List.set_cons_succ]
              refine wpAnyH_take (i := 1) (oi := _) (v := ?vr18_1_1) rfl (by kernel_rfl) (by kernel_rfl) (by kernel_rfl) ?hqr18_1_1 (Or.inl ⟨by kernel_rfl, ?hyr18_1_1⟩) (by assumption) ?restr18_1_1
              case hqr18_1_1 => exact fun _ _ _ h => h
              case hyr18_1_1 => (intro w hSw; (try dsimp only at hSw); go_simp; try with_reducible rfl)
              try simp only [Act.put, List.getElem_toArray, List.getElem_cons_succ, List.getElem_cons_zero, List.setIfInBounds_toArray, List.set_cons_zero, List.set_cons_succ]
              refine wpAnyH_take (i := 2) (oi := _) (v := ?vr18_1_2) rfl (by kernel_rfl) (by kernel_rfl) (by kernel_rfl) ?hqr18_1_2 (Or.inl ⟨by kernel_rfl, ?hyr18_1_2⟩) (by assumption) ?restr18_1_2
              case hqr18_1_2 => exact fun _ _ _ h => h
              case hyr18_1_2 => (intro w hSw; (try dsimp only at hSw); go_simp; try with_reducible rfl)
              try simp only [Act.put, List.getElem_toArray, List.getElem_cons_succ, List.getElem_cons_zero, List.setIfInBounds_toArray, List.set_cons_zero, List.set_cons_succ]
              refine wpAnyH_take (i := 3) (oi := _) (v := undef) rfl (by kernel_rfl) (by kernel_rfl) (by kernel_rfl) (fun _ _ _ h => h) (Or.inr ⟨by kernel_rfl, rfl⟩) (by assumption) ?restr18_1_3
              try simp only [Act.put, List.getElem_toArray, List.getElem_cons_succ, List.getElem_cons_zero, List.setIfInBounds_toArray, List.set_cons_zero, List.set_cons_succ]
              refine wpAnyH_take (i := 4) (oi := _) (v := undef) rfl (by kernel_rfl) (by kernel_rfl) (by kernel_rfl) (fun _ _ _ h => h) (Or.inr ⟨by kernel_rfl, rfl⟩) (by assumption) ?restr18_1_4
              try simp only [Act.put, List.getElem_toArray, List.getElem_cons_succ, List.getElem_cons_zero, List.setIfInBounds_toArray, List.set_cons_zero, List.set_cons_succ]
              refine wpAnyH_take (i := 5) (oi := _) (v := undef) rfl (by kernel_rfl) (by kernel_rfl) (by kernel_rfl) (fun _ _ _ h => h) (Or.inr ⟨by kernel_rfl, rfl⟩) (by assumption) ?restr18_1_5
              try simp only [Act.put, List.getElem_toArray, List.getElem_cons_succ, List.getElem_cons_zero, List.setIfInBounds_toArray, List.set_cons_zero, List.set_cons_succ]
              refine wpAnyH_take (i := 6) (oi := _) (v := undef) rfl (by kernel_rfl) (by kernel_rfl) (by kernel_rfl) (fun _ _ _ h => h) (Or.inr ⟨by kernel_rfl, rfl⟩) (by assumption) ?restr18_1_6
              try simp only [Act.put, List.getElem_toArray, List.getElem_cons_succ, List.getElem_cons_zero, List.setIfInBounds_toArray, List.set_cons_zero, List.set_cons_succ]
              refine wpAnyH_take (i := 7) (oi := _) (v := undef) rfl (by kernel_rfl) (by kernel_rfl) (by kernel_rfl) (fun _ _ _ h => h) (Or.inr ⟨by kernel_rfl, rfl⟩) (by assumption) ?restr18_1_7
              try simp only [Act.put, List.getElem_toArray, List.getElem_cons_succ, List.getElem_cons_zero, List.setIfInBounds_toArray, List.set_cons_zero, List.set_cons_succ]
              refine wpAnyH_take (i := 8) (oi := _) (v := undef) rfl (by kernel_rfl) (by kernel_rfl) (by kernel_rfl) (fun _ _ _ h => h) (Or.inr ⟨by kernel_rfl, rfl⟩) (by assumption) ?restr18_1_8
              try simp only [Act.put, List.getElem_toArray, List.getElem_cons_succ, List.getElem_cons_zero, List.setIfInBounds_toArray, List.set_cons_zero, List.set_cons_succ]
              refine wpAnyH_take (i := 9) (oi := _) (v := ?vr18_1_9) rfl (by kernel_rfl) (by kernel_rfl) (by kernel_rfl) ?hqr18_1_9 (Or.inl ⟨by kernel_rfl, ?hyr18_1_9⟩) (by assumption) ?restr18_1_9
              case hqr18_1_9 => exact fun _ _ _ h => h
              case hyr18_1_9 => (intro w hSw; (try dsimp only at hSw); go_simp; try with_reducible rfl)
              try simp only [Act.put, List.getElem_toArray, List.getElem_cons_succ, List.getElem_cons_zero, List.setIfInBounds_toArray, List.set_cons_zero, List.set_cons_succ]
              refine wpAnyH_take (i := 10) (oi := _) (v := ?vr18_1_10) rfl (by kernel_rfl) (by kernel_rfl) (by kernel_rfl) ?hqr18_1_10 (Or.inl ⟨by kernel_rfl, ?hyr18_1_10⟩) (by assumption) ?restr18_1_10
              case hqr18_1_10 => exact fun _ _ _ h => h
              case hyr18_1_10 => (intro w hSw; (try dsimp only at hSw); go_simp; try with_reducible rfl)
              try simp only [Act.put, List.getElem_toArray, List.getElem_cons_succ, List.getElem_cons_zero, List.setIfInBounds_toArray, List.set_cons_zero, List.set_cons_succ]
              refine wpAnyH_done (by kernel_rfl) ?_ _
              refine NoPanic.normal ?_
              go_wp2
              go_ret
              exact ⟨by rw [hR2]; rfl, hB5.then_ (Bel.refl w5).drew.drew⟩
        · rw [if_pos hkt] at hR1
          have hktb : (k != t) = true := by rw [bne_iff_ne]; exact hkt
          have HR1 := Lib.hid hR1
          clear hR1
          go_enter Tryz.func24, Tryz.ntmps24
          go_wp2_with (first | (go_at_call 56; refine (HCO.out _).mono ?_; rintro e w4 ⟨rfl, hb4⟩; obtain ⟨⟨a0, a1, a2, a3, c0, c1, c2, c3⟩, hB4⟩ := HCL.out _ hb4) | (go_at_call 57; refine (HCH.out _).mono ?_; rintro e w5 ⟨rfl, hb5⟩; obtain ⟨⟨d0, d1, d2, d3, e0, e1, e2, e3⟩, hB5⟩ := HCL.out _ (hb4.then_ hb5)))
          go_ret
          exact ⟨by rw [HR1.out]; rfl, hB5⟩
    · have hcb : (ci == 0) = false := by rw [beq_eq_false_iff_ne]; exact hc0
      have hR2 : R = ci := by rw [HR.out]; unfold fitsI; rw [if_neg (by rw [← HRB.out]; simp), if_pos (by rw [← HCI.out]; exact hc0), HCI.out]
      go_enter Tryz.func24, Tryz.ntmps24
      go_wp2_with (first | (go_at_call 56; refine (HCO.out _).mono ?_; rintro e w4 ⟨rfl, hb4⟩; obtain ⟨⟨a0, a1, a2, a3, c0, c1, c2, c3⟩, hB4⟩ := HCL.out _ hb4) | (go_at_call 57; refine (HCH.out _).mono ?_; rintro e w5 ⟨rfl, hb5⟩; obtain ⟨⟨d0, d1, d2, d3, e0, e1, e2, e3⟩, hB5⟩ := HCL.out _ (hb4.then_ hb5)))
      go_ret
      exact ⟨by rw [hR2]; rfl, hB5⟩
end Go.Proofs.YtkklmflclmgjeaaGreatDoor

/-
  Schema: rows, by the document.
-/
set_option linter.unusedVariables false
set_option linter.unusedSimpArgs false
set_option linter.unusedVariables false
set_option linter.unusedSimpArgs false
namespace Go.Proofs.YtkklmflclmgjeaaGreatDoor
open Go.RowKit Go.Shelf Go.Lib
attribute [local go_sem] Oper.semAt_some

set_option maxRecDepth 100000 in
set_option maxHeartbeats 4000000 in
theorem tRow_any (vc vk vu vl : Value) (cols : List Col) (key : List Int) (uq : List (List Int)) (l : List Val) (w : World) (hc : ColsAt w vc cols) (hk : IntsAt w vk key) (hu : ListsAt w vu uq) (hl : ValsAt w vl l) (hw : ∀ x ∈ l, x.Wf) (hnm : ∀ c ∈ cols, c.name.size ≤ 9223372036854775807) :
    Calls Tryz.prog 19 #[.agg #[vc, vk, vu], vl] w fun e w' => e = .returned (.int .i64 (rowAll cols key uq l)) ∧ Bel w w' := by
  obtain ⟨R, hR⟩ : ∃ R, R = rowAll cols key uq l := ⟨_, rfl⟩
  rw [← hR]
  have HR := Lib.hid hR
  clear hR
  have HRI := Lib.hid (fun V (hb : Bel w V) => tRight_any vc vk vu cols key uq V (hc.bel hb) (hk.bel hb) (hu.bel hb) hnm)
  obtain ⟨Ac, cc, rfl, hcc, hmc, hrc⟩ := hc
  obtain ⟨Al, cl, rfl, hcl, hml, hrl⟩ := hl
  have hnI : (cols.length : Int) ≤ 9223372036854775807 := by unfold maxLen at hmc; omega
  have hlI : (l.length : Int) ≤ 9223372036854775807 := by unfold maxLen at hml; omega
  have HRC := Lib.hid hrc
  have HRL := Lib.hid hrl
  have HWF := Lib.hid hw
  have HNM := Lib.hid hnm
  clear hrc hrl hmc hml hw hnm hk hu
  cases hr : rightS cols key uq with
  | false =>
    have hf : R = 2 := by rw [HR.out]; unfold rowAll; rw [hr]; rfl
    rw [hr] at HRI
    clear hr
    go_enter Tryz.func19, Tryz.ntmps19
    go_wp2_with (go_at_call 31; refine (HRI.out _ ((Bel.refl w).alloc _)).mono ?_; rintro e w4 ⟨rfl, hb4⟩)
    go_ret
    exact ⟨by rw [hf]; rfl, ((Bel.refl w).alloc _).then_ hb4⟩
  | true =>
    have hf : R = rowI cols l := by rw [HR.out]; unfold rowAll; rw [hr]; rfl
    have HF := Lib.hid hf
    rw [hr] at HRI
    clear hr HR hf
    by_cases hlen : l.length = cols.length
    · have hle : ((l.length : Int) != cols.length) = false := by rw [bne_eq_false_iff_eq]; omega
      have HLEN := Lib.hid hlen
      have HRV : Hid (R = firstNZ (fitAt cols l) 0 l.length) := by show _ = _; rw [HF.out]; unfold rowI; rw [if_neg (by simpa using hlen)]
      clear hlen HF
      go_enter Tryz.func19, Tryz.ntmps19
      go_wp2_with (go_at_call 31; refine (HRI.out _ ((Bel.refl w).alloc _)).mono ?_; rintro e w4 ⟨rfl, hb4⟩; have hl0 : w4.cell? ⟨w.heap.size, 0, none⟩ = some (.slice Ac cols.length cc) := hb4.c (by go_simp))
      have HL0 := Lib.hid hl0
      have HW4 := Lib.hid (((Bel.refl w).alloc _).then_ hb4)
      clear hl0 hb4
      go_loopw [5] (fun i wr => ∃ k : Nat, k ≤ l.length ∧ i = .int .i64 k ∧ Hid (Bel w4 wr) ∧ Hid (∀ j, j < k → fitAt cols l j = 0)) (fun i _ => l.length - (intOf i).toNat)
      case atStart => exact ⟨0, Nat.zero_le _, rfl, Bel.refl _, fun j hj => by omega⟩
      case round =>
        obtain ⟨k, hk, rfl, HB, HT⟩ := hrel
        by_cases hlt : k < l.length
        · obtain ⟨y, hy⟩ : ∃ y, l[k]? = some y := ⟨_, List.getElem?_eq_getElem hlt⟩
          obtain ⟨x, hx⟩ : ∃ x, cols[k]? = some x := ⟨_, List.getElem?_eq_getElem (by have := HLEN.out; omega)⟩
          obtain ⟨bl, ol, rfl, hli⟩ := HRL.out (by omega)
          obtain ⟨b, off, rfl, hci⟩ := HRC.out (by have := HLEN.out; omega)
          obtain ⟨q0, q1, q2, q3⟩ := hci k x hx
          obtain ⟨r0, r1, r2, r3⟩ := hli k y hy
          have hbw : Bel w wr := HW4.out.then_ HB.out
          have hkI : (k : Int) < l.length := by omega
          have hkc : (k : Int) < cols.length := by have := HLEN.out; omega
          have hfa : fitAt cols l k = fitsI x y := by unfold fitAt; rw [hx, hy]
          have HNX : Hid (fitsI x y = 0 → ∀ j, j < k + 1 → fitAt cols l j = 0) := fun e j hj => by
            by_cases ej : j = k
            · subst ej; rw [hfa]; exact e
            · exact HT.out j (by omega)
          have HNO : Hid (fitsI x y ≠ 0 → R = fitsI x y) := fun e => by
            rw [HRV.out, firstNZ_hit (fitAt cols l) k (by rw [hfa]; exact e) l.length 0 (Nat.zero_le _) (by omega) (fun j _ h => HT.out j h), hfa]
          have HS : Hid (∀ V, Bel wr V → (fun V : World => V.cell? ⟨w.heap.size, 0, none⟩ = some (.slice (some ⟨b, off, none⟩) cols.length cc) ∧ V.cell? ⟨b, off + k * 4, none⟩ = some (.string x.name) ∧ V.cell? ⟨b, off + k * 4 + 1, none⟩ = some (.int .i64 x.t) ∧ V.cell? ⟨b, off + k * 4 + 2, none⟩ = some (.int .i64 x.z) ∧ V.cell? ⟨b, off + k * 4 + 3, none⟩ = some (.bool x.null) ∧ V.cell? ⟨bl, ol + k * 4, none⟩ = some (.int .i64 y.k) ∧ V.cell? ⟨bl, ol + k * 4 + 1, none⟩ = some (.int .i64 y.n) ∧ V.cell? ⟨bl, ol + k * 4 + 2, none⟩ = some (.int .u64 y.u) ∧ V.cell? ⟨bl, ol + k * 4 + 3, none⟩ = some (.string y.b)) V) := fun V h =>
            ⟨(HB.out.then_ h).c HL0.out, (hbw.then_ h).c q0, (hbw.then_ h).c q1, (hbw.then_ h).c q2, (hbw.then_ h).c q3, (hbw.then_ h).c r0, (hbw.then_ h).c r1, (hbw.then_ h).c r2, (hbw.then_ h).c r3⟩
          have HFI := Lib.hid (fun V => tFits_any x (HNM.out x (List.mem_of_getElem? hx)) y (HWF.out y (List.mem_of_getElem? hy)) V)
          have HLT := Lib.hid hlt
          have HBW := Lib.hid hbw
          unfold Val.v Col.v at HFI
          clear hx hy hci hli q0 q1 q2 q3 r0 r1 r2 r3 hbw hfa
          generalize fitsI x y = fi at *
          go_wp2
          refine wp_region_noPanic ?_
          refine wp_region_held_drew (S := (fun V : World => V.cell? ⟨w.heap.size, 0, none⟩ = some (.slice (some ⟨b, off, none⟩) cols.length cc) ∧ V.cell? ⟨b, off + k * 4, none⟩ = some (.string x.name) ∧ V.cell? ⟨b, off + k * 4 + 1, none⟩ = some (.int .i64 x.t) ∧ V.cell? ⟨b, off + k * 4 + 2, none⟩ = some (.int .i64 x.z) ∧ V.cell? ⟨b, off + k * 4 + 3, none⟩ = some (.bool x.null) ∧ V.cell? ⟨bl, ol + k * 4, none⟩ = some (.int .i64 y.k) ∧ V.cell? ⟨bl, ol + k * 4 + 1, none⟩ = some (.int .i64 y.n) ∧ V.cell? ⟨bl, ol + k * 4 + 2, none⟩ = some (.int .u64 y.u) ∧ V.cell? ⟨bl, ol + k * 4 + 3, none⟩ = some (.string y.b))) (by kernel_rfl) ?_ (fun hHr1_0 => ?_)
          · (try dsimp only); (first | assumption | exact HS.out _ (Bel.refl _).drew | exact HS.out _ (Bel.then_ (Bel.refl _).drew hb7))
          refine wpAnyH_take (i := 0) (oi := _) (v := ?vr1_1_0) rfl (by kernel_rfl) (by kernel_rfl) (by kernel_rfl) ?hqr1_1_0 (Or.inl ⟨by kernel_rfl, ?hyr1_1_0⟩) (by assumption) ?restr1_1_0
          case hqr1_1_0 => exact fun _ _ _ h => h
          case hyr1_1_0 => (intro w hSw; (try dsimp only at hSw); go_simp; try with_reducible rfl)
          try simp only [Act.put, List.getElem_toArray, List.getElem_cons_succ, List.getElem_cons_zero, List.setIfInBounds_toArray, List.set_cons_zero, List.set_cons_succ]
          refine wpAnyH_take (i := 1) (oi := _) (v := ?vr1_1_1) rfl (by kernel_rfl) (by kernel_rfl) (by kernel_rfl) ?hqr1_1_1 (Or.inl ⟨by kernel_rfl, ?hyr1_1_1⟩) (by assumption) ?restr1_1_1
          case hqr1_1_1 => exact fun _ _ _ h => h
          case hyr1_1_1 => (intro w hSw; (try dsimp only at hSw); go_simp; try with_reducible rfl)
          try simp only [Act.put, List.getElem_toArray, List.getElem_cons_succ, List.getElem_cons_zero, List.setIfInBounds_toArray, List.set_cons_zero, List.set_cons_succ]
          refine wpAnyH_take (i := 2) (oi := _) (v := ?vr1_1_2) rfl (by kernel_rfl) (by kernel_rfl) (by kernel_rfl) ?hqr1_1_2 (Or.inl ⟨by kernel_rfl, ?hyr1_1_2⟩) (by assumption) ?restr1_1_2
          case hqr1_1_2 => exact fun _ _ _ h => h
          case hyr1_1_2 => (intro w hSw; (try dsimp only at hSw); go_simp; try with_reducible rfl)
          try simp only [Act.put, List.getElem_toArray, List.getElem_cons_succ, List.getElem_cons_zero, List.setIfInBounds_toArray, List.set_cons_zero, List.set_cons_succ]
          refine wpAnyH_take (i := 3) (oi := _) (v := ?vr1_1_3) rfl (by kernel_rfl) (by kernel_rfl) (by kernel_rfl) ?hqr1_1_3 (Or.inl ⟨by kernel_rfl, ?hyr1_1_3⟩) (by assumption) ?restr1_1_3
          case hqr1_1_3 => exact fun _ _ _ h => h
          case hyr1_1_3 => (intro w hSw; (try dsimp only at hSw); go_simp; try with_reducible rfl)
          try simp only [Act.put, List.getElem_toArray, List.getElem_cons_succ, List.getElem_cons_zero, List.setIfInBounds_toArray, List.set_cons_zero, List.set_cons_succ]
          refine wpAnyH_take (i := 4) (oi := _) (v := ?vr1_1_4) rfl (by kernel_rfl) (by kernel_rfl) (by kernel_rfl) ?hqr1_1_4 (Or.inl ⟨by kernel_rfl, ?hyr1_1_4⟩) (by assumption) ?restr1_1_4
          case hqr1_1_4 => exact fun _ _ _ h => h
          case hyr1_1_4 => (intro w hSw; (try dsimp only at hSw); go_simp; try with_reducible rfl)
          try simp only [Act.put, List.getElem_toArray, List.getElem_cons_succ, List.getElem_cons_zero, List.setIfInBounds_toArray, List.set_cons_zero, List.set_cons_succ]
          refine wpAnyH_take (i := 5) (oi := _) (v := ?vr1_1_5) rfl (by kernel_rfl) (by kernel_rfl) (by kernel_rfl) ?hqr1_1_5 (Or.inl ⟨by kernel_rfl, ?hyr1_1_5⟩) (by assumption) ?restr1_1_5
          case hqr1_1_5 => exact fun _ _ _ h => h
          case hyr1_1_5 => (intro w hSw; (try dsimp only at hSw); go_simp; try with_reducible rfl)
          try simp only [Act.put, List.getElem_toArray, List.getElem_cons_succ, List.getElem_cons_zero, List.setIfInBounds_toArray, List.set_cons_zero, List.set_cons_succ]
          refine wpAnyH_take (i := 6) (oi := _) (v := ?vr1_1_6) rfl (by kernel_rfl) (by kernel_rfl) (by kernel_rfl) ?hqr1_1_6 (Or.inl ⟨by kernel_rfl, ?hyr1_1_6⟩) (by assumption) ?restr1_1_6
          case hqr1_1_6 => exact fun _ _ _ h => h
          case hyr1_1_6 => (intro w hSw; (try dsimp only at hSw); go_simp; try with_reducible rfl)
          try simp only [Act.put, List.getElem_toArray, List.getElem_cons_succ, List.getElem_cons_zero, List.setIfInBounds_toArray, List.set_cons_zero, List.set_cons_succ]
          refine wpAnyH_take (i := 7) (oi := _) (v := ?vr1_1_7) rfl (by kernel_rfl) (by kernel_rfl) (by kernel_rfl) ?hqr1_1_7 (Or.inl ⟨by kernel_rfl, ?hyr1_1_7⟩) (by assumption) ?restr1_1_7
          case hqr1_1_7 => exact fun _ _ _ h => h
          case hyr1_1_7 => (intro w hSw; (try dsimp only at hSw); go_simp; try with_reducible rfl)
          try simp only [Act.put, List.getElem_toArray, List.getElem_cons_succ, List.getElem_cons_zero, List.setIfInBounds_toArray, List.set_cons_zero, List.set_cons_succ]
          refine wpAnyH_take (i := 8) (oi := _) (v := ?vr1_1_8) rfl (by kernel_rfl) (by kernel_rfl) (by kernel_rfl) ?hqr1_1_8 (Or.inl ⟨by kernel_rfl, ?hyr1_1_8⟩) (by assumption) ?restr1_1_8
          case hqr1_1_8 => exact fun _ _ _ h => h
          case hyr1_1_8 => (intro w hSw; (try dsimp only at hSw); go_simp; try with_reducible rfl)
          try simp only [Act.put, List.getElem_toArray, List.getElem_cons_succ, List.getElem_cons_zero, List.setIfInBounds_toArray, List.set_cons_zero, List.set_cons_succ]
          refine wpAnyH_ready (rs := [9]) (by kernel_rfl) (by simp) ?_
          refine AllReadyH.cons (o := _) rfl (fun K hK => ?_) AllReadyH.nil
          go_simp
          (go_at_call 24; refine (HFI.out _).mono ?_; rintro e w7 ⟨rfl, hb7⟩)
          try (go_wp2_with fail)
          refine hK.out _ _ ?_ (fun hHr1_1 => ?_)
          · (try dsimp only); (first | assumption | exact HS.out _ (Bel.refl _).drew | exact HS.out _ (Bel.then_ (Bel.refl _).drew hb7))
          clear hK K hHr1_0
          try simp only [Act.put, List.getElem_toArray, List.getElem_cons_succ, List.getElem_cons_zero, List.setIfInBounds_toArray, List.set_cons_zero, List.set_cons_succ]
          refine wpAnyH_take (i := 10) (oi := _) (v := ?vr1_1_10) rfl (by kernel_rfl) (by kernel_rfl) (by kernel_rfl) ?hqr1_1_10 (Or.inl ⟨by kernel_rfl, ?hyr1_1_10⟩) (by assumption) ?restr1_1_10
          case hqr1_1_10 => exact fun _ _ _ h => h
          case hyr1_1_10 => (intro w hSw; (try dsimp only at hSw); go_simp; try with_reducible rfl)
          try simp only [Act.put, List.getElem_toArray, List.getElem_cons_succ, List.getElem_cons_zero, List.setIfInBounds_toArray, List.set_cons_zero, List.set_cons_succ]
          refine wpAnyH_done (by kernel_rfl) ?_ _
          refine NoPanic.normal ?_
          have HB7 := Lib.hid ((Bel.refl wr).drew.then_ hb7)
          clear hb7 hHr1_1
          by_cases h0 : fi = 0
          · have ht := Lib.hid (HNX.out h0)
            subst h0
            go_wp2
            go_roundw
            case rel => exact ⟨k + 1, HLT.out, by go_num, HB.out.then_ HB7.out, ht.out⟩
            case measure => have := HLT.out; simp [intOf]; omega
          · have hf := HNO.out h0
            have hkb : (fi == 0) = false := by rw [beq_eq_false_iff_ne]; exact h0
            have hkb2 : (fi != 0) = true := by rw [bne_iff_ne]; exact h0
            go_wp2
            go_ret
            exact ⟨by first | rfl | (rw [hf]; rfl), HBW.out.then_ HB7.out⟩
        · obtain rfl : k = l.length := by omega
          have ht : R = 0 := by rw [HRV.out]; exact firstNZ_none _ _ _ (fun j _ h => HT.out j (by omega))
          clear HT hlt hk
          go_wp2
          go_ret
          exact ⟨by first | rfl | (rw [ht]; rfl), HW4.out.then_ HB.out⟩
    · have hle : ((l.length : Int) != cols.length) = true := by rw [bne_iff_ne]; omega
      have hR2 : R = 130 := by rw [HF.out]; unfold rowI; rw [if_pos hlen]
      go_enter Tryz.func19, Tryz.ntmps19
      go_wp2_with (go_at_call 31; refine (HRI.out _ ((Bel.refl w).alloc _)).mono ?_; rintro e w4 ⟨rfl, hb4⟩; have hl0 : w4.cell? ⟨w.heap.size, 0, none⟩ = some (.slice Ac cols.length cc) := hb4.c (by go_simp))
      go_ret
      exact ⟨by rw [hR2]; rfl, ((Bel.refl w).alloc _).then_ hb4⟩
end Go.Proofs.YtkklmflclmgjeaaGreatDoor

/-
  The document's codec: Encode.
-/
set_option linter.unusedVariables false
set_option linter.unusedSimpArgs false
set_option linter.unusedVariables false
set_option linter.unusedSimpArgs false
namespace Go.Proofs.YtkklmflclmgjeaaGreatDoor
open Go.RowKit Go.Shelf Go.Lib
attribute [local go_sem] Oper.semAt_some

set_option maxRecDepth 100000 in
set_option maxHeartbeats 8000000 in
theorem r4Encode_any (vc vk vu vl : Value) (cols : List Col) (key : List Int) (uq : List (List Int)) (l : List Val) (w : World) (hc : ColsAt w vc cols) (hk : IntsAt w vk key) (hu : ListsAt w vu uq) (hl : ValsAt w vl l) (hw : ∀ x ∈ l, x.Wf) (hnm : ∀ c ∈ cols, c.name.size ≤ 9223372036854775807) (hm : l.length ≤ 1000) :
    Calls Tryz.prog 38 #[.agg #[vc, vk, vu], vl] w fun e w' => ∃ v, e = .returned (.tuple #[v, .int .i64 (encGives cols key uq l).2]) ∧ BsAt w' v (encGives cols key uq l).1 ∧ Bel w w' := by
  have hb0 : Bel w (w.alloc (.cells #[vc, vk, vu] 26)) := (Bel.refl w).alloc _
  have HSR := Lib.hid (tRow_any vc vk vu vl cols key uq l _ (hc.bel hb0) (hk.bel hb0) (hu.bel hb0) (hl.bel hb0) hw hnm)
  unfold encGives
  by_cases hr0 : rowAll cols key uq l = 0
  case neg =>
    rw [if_neg hr0]
    have hrb : (rowAll cols key uq l != 0) = true := by rw [bne_iff_ne]; exact hr0
    clear hc hk hu hl hr0 hnm
    generalize rowAll cols key uq l = r at *
    go_enter Tryz.func38, Tryz.ntmps38
    go_wp2_with fail
    refine HSR.out.mono ?_
    rintro e w4 ⟨rfl, hb4⟩
    go_wp2
    go_ret2
    exact ⟨_, rfl, ⟨none, 0, rfl, Nat.le_refl _, Nat.zero_le _, Reads.none_⟩, hb0.then_ hb4⟩
  case pos =>
    rw [if_pos hr0]
    have hrs : rightS cols key uq = true := by
      unfold rowAll at hr0
      cases h : rightS cols key uq
      · rw [h] at hr0; simp at hr0
      · rfl
    have hall := row_all (cols := cols) (key := key) (uq := uq) (l := l) hrs
    rw [hr0] at HSR hall
    have hall : allFit cols l (min l.length cols.length) = true := by rw [← hall]; rfl
    unfold allFit at hall
    rw [Bool.and_eq_true] at hall
    have hlen := of_decide_eq_true hall.1
    have hfit : ∀ i, i < l.length → fitAt cols l i = 0 := fun i hi => of_decide_eq_true (List.all_eq_true.1 hall.2 i (List.mem_range.2 (by omega)))
    have HFIT := Lib.hid hfit
    have HWF := Lib.hid hw
    have HLEN := Lib.hid hlen
    obtain ⟨Ac, cc, rfl, hcc, hmc, hrc⟩ := hc
    obtain ⟨Al, cl, rfl, hcl, hml, hrl⟩ := hl
    have HRC := Lib.hid hrc
    have HRL := Lib.hid hrl
    have hlI : (l.length : Int) ≤ 1000 := by omega
    have hcI : (cols.length : Int) ≤ 1000 := by omega
    have HB0 := Lib.hid hb0
    obtain ⟨i0, hi0, hz0, hz1, hz2⟩ := info_parts infoU8
    have hp1 : (0 : Nat) < 1 := by omega
    have HML := Lib.hid hm
    clear hk hu hw hfit hall hrs hr0 hrc hrl hlen hcc hmc hcl hml hb0 hm hnm
    go_enter Tryz.func38, Tryz.ntmps38
    go_wp2_with fail
    refine HSR.out.mono ?_
    rintro e w4 ⟨rfl, hb4⟩
    have HB4 := Lib.hid hb4
    clear hb4
    go_wp2
    go_loopw [7, 8] (fun v i wr => ∃ (k n : Nat), k ≤ l.length ∧ i = .int .i64 k ∧ (∃ A c, v = .slice A n c) ∧ n ≤ 221 * k ∧ Hid (Bel w4 wr ∧ wr.ownsRow w4.heap.size 5 1 v n ((encRow (cols.take k) (l.take k)).map bv))) (fun v i _ => l.length - (intOf i).toNat)
    case atStart => exact ⟨0, 0, Nat.zero_le _, rfl, ⟨none, 0, rfl⟩, by omega, Bel.refl w4, World.ownsRow_nil _ _ _ _⟩
    case round =>
      obtain ⟨k, n, hk, rfl, ⟨A, c, rfl⟩, hn, HO⟩ := hrel
      have hbw : Bel w wr := (HB0.out.then_ HB4.out).then_ HO.out.1
      by_cases hlt : k < l.length
      · obtain ⟨x, hx⟩ : ∃ x, l[k]? = some x := ⟨_, List.getElem?_eq_getElem hlt⟩
        obtain ⟨co, hco⟩ : ∃ co, cols[k]? = some co := ⟨_, List.getElem?_eq_getElem (by have := HLEN.out; omega)⟩
        obtain ⟨bc, oc, rfl, hci⟩ := HRC.out (by have := HLEN.out; omega)
        obtain ⟨bl, ol, rfl, hli⟩ := HRL.out (by omega)
        obtain ⟨q0, q1, q2, q3⟩ := hci k co hco
        obtain ⟨p0, p1, p2, p3⟩ := hli k x hx
        have hbx := HB0.out.then_ HB4.out
        have hfx : fitsI co x = 0 := by rw [← fitAt_at hco hx]; exact HFIT.out k hlt
        have hwx := HWF.out x (List.mem_of_getElem? hx)
        have HTK := Lib.hid (encRow_take hco hx)
        have HEL := Lib.hid (encVal_len hfx)
        have HONE := Lib.hid (fun V => r4one_any co x hfx hwx V)
        have hbone := bv_one (encVal co x)
        have hkI : (k : Int) < l.length := by omega
        have hkJ : (k : Int) < cols.length := by have := HLEN.out; omega
        obtain ⟨s, hs⟩ : ∃ s, s = encVal co x := ⟨_, rfl⟩
        rw [← hs] at HTK HEL HONE hbone
        clear hs
        obtain ⟨cn, ct, cz, cnl⟩ := co
        obtain ⟨xk, xn, xu, xb⟩ := x
        unfold Col.v Val.v at HONE
        dsimp only at *
        have l0 : w4.cell? ⟨w.heap.size, 0, none⟩ = some (.slice (some ⟨bc, oc, none⟩) cols.length cc) := HB4.out.c (by go_simp)
        have hS : ∀ V, Bel w4 V → (fun V : World => Bel w4 V ∧ V.cell? ⟨w.heap.size, 0, none⟩ = some (.slice (some ⟨bc, oc, none⟩) cols.length cc) ∧ (V.cell? ⟨bc, oc + k * 4, none⟩ = some (.string cn) ∧ V.cell? ⟨bc, oc + k * 4 + 1, none⟩ = some (.int .i64 ct) ∧ V.cell? ⟨bc, oc + k * 4 + 2, none⟩ = some (.int .i64 cz) ∧ V.cell? ⟨bc, oc + k * 4 + 3, none⟩ = some (.bool cnl)) ∧ V.cell? ⟨bl, ol + k * 4, none⟩ = some (.int .i64 xk) ∧ V.cell? ⟨bl, ol + k * 4 + 1, none⟩ = some (.int .i64 xn) ∧ V.cell? ⟨bl, ol + k * 4 + 2, none⟩ = some (.int .u64 xu) ∧ V.cell? ⟨bl, ol + k * 4 + 3, none⟩ = some (.string xb)) V := fun V h => ⟨h, h.c l0, ⟨h.c (hbx.c q0), h.c (hbx.c q1), h.c (hbx.c q2), h.c (hbx.c q3)⟩, h.c (hbx.c p0), h.c (hbx.c p1), h.c (hbx.c p2), h.c (hbx.c p3)⟩
        have h63 : n + s.length ≤ maxLen := by have := HML.out; have := HEL.out; unfold maxLen; omega
        have hby : (n + s.length) * 1 ≤ 140737488355328 := by have := HML.out; have := HEL.out; omega
        clear hx hco hci hli q0 q1 q2 q3 p0 p1 p2 p3 hfx hwx hbw l0 hbx
        go_wp2_with fail
        refine wp_region_noPanic ?_
        refine wp_region_held_drew (S := (fun V : World => Bel w4 V ∧ V.cell? ⟨w.heap.size, 0, none⟩ = some (.slice (some ⟨bc, oc, none⟩) cols.length cc) ∧ (V.cell? ⟨bc, oc + k * 4, none⟩ = some (.string cn) ∧ V.cell? ⟨bc, oc + k * 4 + 1, none⟩ = some (.int .i64 ct) ∧ V.cell? ⟨bc, oc + k * 4 + 2, none⟩ = some (.int .i64 cz) ∧ V.cell? ⟨bc, oc + k * 4 + 3, none⟩ = some (.bool cnl)) ∧ V.cell? ⟨bl, ol + k * 4, none⟩ = some (.int .i64 xk) ∧ V.cell? ⟨bl, ol + k * 4 + 1, none⟩ = some (.int .i64 xn) ∧ V.cell? ⟨bl, ol + k * 4 + 2, none⟩ = some (.int .u64 xu) ∧ V.cell? ⟨bl, ol + k * 4 + 3, none⟩ = some (.string xb))) (by kernel_rfl) ?_ (fun hHr1_0 => ?_)
        · (try dsimp only); (first | assumption | exact hS _ HO.out.1.drew | exact hS _ HB10.out | exact hS _ HB12.out)
        refine wpAnyH_take (i := 0) (oi := _) (v := ?vr1_1_0) rfl (by kernel_rfl) (by kernel_rfl) (by kernel_rfl) ?hqr1_1_0 (Or.inl ⟨by kernel_rfl, ?hyr1_1_0⟩) (by assumption) ?restr1_1_0
        case hqr1_1_0 => exact fun _ _ _ h => h
        case hyr1_1_0 => (intro w hSw; (try dsimp only at hSw); go_simp; try with_reducible rfl)
        try simp only [Act.put, List.getElem_toArray, List.getElem_cons_succ, List.getElem_cons_zero, List.setIfInBounds_toArray, List.set_cons_zero, List.set_cons_succ]
        refine wpAnyH_take (i := 1) (oi := _) (v := ?vr1_1_1) rfl (by kernel_rfl) (by kernel_rfl) (by kernel_rfl) ?hqr1_1_1 (Or.inl ⟨by kernel_rfl, ?hyr1_1_1⟩) (by assumption) ?restr1_1_1
        case hqr1_1_1 => exact fun _ _ _ h => h
        case hyr1_1_1 => (intro w hSw; (try dsimp only at hSw); go_simp; try with_reducible rfl)
        try simp only [Act.put, List.getElem_toArray, List.getElem_cons_succ, List.getElem_cons_zero, List.setIfInBounds_toArray, List.set_cons_zero, List.set_cons_succ]
        refine wpAnyH_take (i := 2) (oi := _) (v := ?vr1_1_2) rfl (by kernel_rfl) (by kernel_rfl) (by kernel_rfl) ?hqr1_1_2 (Or.inl ⟨by kernel_rfl, ?hyr1_1_2⟩) (by assumption) ?restr1_1_2
        case hqr1_1_2 => exact fun _ _ _ h => h
        case hyr1_1_2 => (intro w hSw; (try dsimp only at hSw); go_simp; try with_reducible rfl)
        try simp only [Act.put, List.getElem_toArray, List.getElem_cons_succ, List.getElem_cons_zero, List.setIfInBounds_toArray, List.set_cons_zero, List.set_cons_succ]
        refine wpAnyH_take (i := 3) (oi := _) (v := ?vr1_1_3) rfl (by kernel_rfl) (by kernel_rfl) (by kernel_rfl) ?hqr1_1_3 (Or.inl ⟨by kernel_rfl, ?hyr1_1_3⟩) (by assumption) ?restr1_1_3
        case hqr1_1_3 => exact fun _ _ _ h => h
        case hyr1_1_3 => (intro w hSw; (try dsimp only at hSw); go_simp; try with_reducible rfl)
        try simp only [Act.put, List.getElem_toArray, List.getElem_cons_succ, List.getElem_cons_zero, List.setIfInBounds_toArray, List.set_cons_zero, List.set_cons_succ]
        refine wpAnyH_take (i := 4) (oi := _) (v := ?vr1_1_4) rfl (by kernel_rfl) (by kernel_rfl) (by kernel_rfl) ?hqr1_1_4 (Or.inl ⟨by kernel_rfl, ?hyr1_1_4⟩) (by assumption) ?restr1_1_4
        case hqr1_1_4 => exact fun _ _ _ h => h
        case hyr1_1_4 => (intro w hSw; (try dsimp only at hSw); go_simp; try with_reducible rfl)
        try simp only [Act.put, List.getElem_toArray, List.getElem_cons_succ, List.getElem_cons_zero, List.setIfInBounds_toArray, List.set_cons_zero, List.set_cons_succ]
        refine wpAnyH_take (i := 5) (oi := _) (v := ?vr1_1_5) rfl (by kernel_rfl) (by kernel_rfl) (by kernel_rfl) ?hqr1_1_5 (Or.inl ⟨by kernel_rfl, ?hyr1_1_5⟩) (by assumption) ?restr1_1_5
        case hqr1_1_5 => exact fun _ _ _ h => h
        case hyr1_1_5 => (intro w hSw; (try dsimp only at hSw); go_simp; try with_reducible rfl)
        try simp only [Act.put, List.getElem_toArray, List.getElem_cons_succ, List.getElem_cons_zero, List.setIfInBounds_toArray, List.set_cons_zero, List.set_cons_succ]
        refine wpAnyH_take (i := 6) (oi := _) (v := ?vr1_1_6) rfl (by kernel_rfl) (by kernel_rfl) (by kernel_rfl) ?hqr1_1_6 (Or.inl ⟨by kernel_rfl, ?hyr1_1_6⟩) (by assumption) ?restr1_1_6
        case hqr1_1_6 => exact fun _ _ _ h => h
        case hyr1_1_6 => (intro w hSw; (try dsimp only at hSw); go_simp; try with_reducible rfl)
        try simp only [Act.put, List.getElem_toArray, List.getElem_cons_succ, List.getElem_cons_zero, List.setIfInBounds_toArray, List.set_cons_zero, List.set_cons_succ]
        refine wpAnyH_take (i := 7) (oi := _) (v := ?vr1_1_7) rfl (by kernel_rfl) (by kernel_rfl) (by kernel_rfl) ?hqr1_1_7 (Or.inl ⟨by kernel_rfl, ?hyr1_1_7⟩) (by assumption) ?restr1_1_7
        case hqr1_1_7 => exact fun _ _ _ h => h
        case hyr1_1_7 => (intro w hSw; (try dsimp only at hSw); go_simp; try with_reducible rfl)
        try simp only [Act.put, List.getElem_toArray, List.getElem_cons_succ, List.getElem_cons_zero, List.setIfInBounds_toArray, List.set_cons_zero, List.set_cons_succ]
        refine wpAnyH_take (i := 8) (oi := _) (v := ?vr1_1_8) rfl (by kernel_rfl) (by kernel_rfl) (by kernel_rfl) ?hqr1_1_8 (Or.inl ⟨by kernel_rfl, ?hyr1_1_8⟩) (by assumption) ?restr1_1_8
        case hqr1_1_8 => exact fun _ _ _ h => h
        case hyr1_1_8 => (intro w hSw; (try dsimp only at hSw); go_simp; try with_reducible rfl)
        try simp only [Act.put, List.getElem_toArray, List.getElem_cons_succ, List.getElem_cons_zero, List.setIfInBounds_toArray, List.set_cons_zero, List.set_cons_succ]
        refine wpAnyH_take (i := 9) (oi := _) (v := ?vr1_1_9) rfl (by kernel_rfl) (by kernel_rfl) (by kernel_rfl) ?hqr1_1_9 (Or.inl ⟨by kernel_rfl, ?hyr1_1_9⟩) (by assumption) ?restr1_1_9
        case hqr1_1_9 => exact fun _ _ _ h => h
        case hyr1_1_9 => (intro w hSw; (try dsimp only at hSw); go_simp; try with_reducible rfl)
        try simp only [Act.put, List.getElem_toArray, List.getElem_cons_succ, List.getElem_cons_zero, List.setIfInBounds_toArray, List.set_cons_zero, List.set_cons_succ]
        refine wpAnyH_ready (rs := [10]) (by kernel_rfl) (by simp) ?_
        refine AllReadyH.cons (o := _) rfl (fun K hK => ?_) AllReadyH.nil
        go_simp
        (go_at_call 71; refine (HONE.out _).mono ?_; rintro e w10 ⟨A2, c2, rfl, hown2, hb10⟩; have HB10 := Lib.hid (HO.out.1.drew.then_ hb10))
        try (go_wp2_with fail)
        refine hK.out _ _ ?_ (fun hHr1_1 => ?_)
        · (try dsimp only); (first | assumption | exact hS _ HO.out.1.drew | exact hS _ HB10.out | exact hS _ HB12.out)
        clear hK K hHr1_0
        try simp only [Act.put, List.getElem_toArray, List.getElem_cons_succ, List.getElem_cons_zero, List.setIfInBounds_toArray, List.set_cons_zero, List.set_cons_succ]
        refine wpAnyH_ready (rs := [11]) (by kernel_rfl) (by simp) ?_
        refine AllReadyH.cons (o := _) rfl (fun K hK => ?_) AllReadyH.nil
        rw [if_pos (by first | rfl | kernel_rfl)]
        (refine wp_append_any _ (.tmp 21) (.tmp 31) 63 rfl w4.heap.size 5 i0 _ 1 1 Tryz.underlying63 hi0 hz0 hz1 hz2 rfl hp1 (.slice A n c) n _ (by rfl) (ownsRow_bel HO.out.2 ((Bel.refl wr).drew.then_ hb10)) _ A2 s.length c2 _ (by rfl) (Reads.of_own hown2) hbone h63 hby HB10.out.size ?_; intro v12 w12 hown12 hg12 hat12; have HB12 := Lib.hid (show Bel w4 w12 from Below.grown HB10.out hg12 HB10.out.size (fun j e => (HO.out.2.lt j e).1)); obtain ⟨A12, c12, rfl⟩ := row_form hown12; have HOWN12 := Lib.hid hown12; clear hown12 hg12 hat12)
        refine hK.out _ _ ?_ (fun hHr1_2 => ?_)
        · (try dsimp only); (first | assumption | exact hS _ HO.out.1.drew | exact hS _ HB10.out | exact hS _ HB12.out)
        clear hK K hHr1_1
        try simp only [Act.put, List.getElem_toArray, List.getElem_cons_succ, List.getElem_cons_zero, List.setIfInBounds_toArray, List.set_cons_zero, List.set_cons_succ]
        refine wpAnyH_take (i := 12) (oi := _) (v := ?vr1_1_12) rfl (by kernel_rfl) (by kernel_rfl) (by kernel_rfl) ?hqr1_1_12 (Or.inl ⟨by kernel_rfl, ?hyr1_1_12⟩) (by assumption) ?restr1_1_12
        case hqr1_1_12 => exact fun _ _ _ h => h
        case hyr1_1_12 => (intro w hSw; (try dsimp only at hSw); go_simp; try with_reducible rfl)
        try simp only [Act.put, List.getElem_toArray, List.getElem_cons_succ, List.getElem_cons_zero, List.setIfInBounds_toArray, List.set_cons_zero, List.set_cons_succ]
        refine wpAnyH_done (by kernel_rfl) ?_ _
        refine NoPanic.normal ?_
        have hlist : (encRow (cols.take k) (l.take k)).map bv ++ s.map bv = (encRow (cols.take (k + 1)) (l.take (k + 1))).map bv := by
          rw [HTK.out, List.map_append]
        have HFIN := Lib.hid (And.intro HB12.out HOWN12.out)
        rw [hlist] at HFIN
        have hel := HEL.out
        clear hlist
        go_wp2_with fail
        go_roundw
        case rel => exact ⟨k + 1, _, by omega, by go_num, ⟨A12, c12, rfl⟩, by omega, HFIN.out⟩
        case measure => simp [intOf]; omega
      · obtain rfl : k = l.length := by omega
        have HFIN : Hid (BsAt wr (.slice A n c) (encRow cols l)) := by
          have := HO.out.2
          rw [List.take_length, List.take_of_length_le (by have := HLEN.out; omega)] at this
          exact BsAt.of_own this
        have HBW := Lib.hid hbw
        clear hlt hk hbw
        go_wp2
        go_ret2
        exact ⟨_, rfl, HFIN.out, HBW.out⟩
end Go.Proofs.YtkklmflclmgjeaaGreatDoor

/-
  CodecRows, its walk.
-/
set_option linter.unusedVariables false
set_option linter.unusedSimpArgs false
set_option linter.unusedVariables false
set_option linter.unusedSimpArgs false
namespace Go.Proofs.YtkklmflclmgjeaaGreatDoor
open Go.RowKit Go.Shelf Go.Lib
attribute [local go_sem] Oper.semAt_some

set_option maxRecDepth 100000 in
set_option maxHeartbeats 8000000 in
theorem kRows_any (vc vk vu vl : Value) (cols : List Col) (key : List Int) (uq : List (List Int)) (l : List Val) (w : World) (hg : ErrType w) (hc : ColsAt w vc cols) (hk : IntsAt w vk key) (hu : ListsAt w vu uq) (hl : ValsAt w vl l)
    (hnm : ∀ c ∈ cols, c.name.size ≤ maxLen) (hw : ∀ x ∈ l, x.Wf) (hsz : ∀ x ∈ l, x.b.size ≤ maxLen) : Calls Tryz.prog 9 #[.agg #[vc, vk, vu], vl] w fun e w' => e = .returned (.bool true) ∧ Bel w w' := by
  have hb0 : Bel w (w.alloc (.cells #[vc, vk, vu] 26)) := (Bel.refl w).alloc _
  have HFW := Lib.hid (fun V (hb : Bel w V) => kfew_any vc vk vu cols key uq V (hc.bel hb) (hk.bel hb) (hu.bel hb) hnm)
  have HSH := Lib.hid (fun V (hb : Bel w V) => kshort_any vl l V (hl.bel hb) hsz)
  have HW := Lib.hid (fun V (hb : Bel w V) => kworks_any V (hg.bel hb))
  have hnm2 : ∀ c ∈ cols, c.name.size ≤ 9223372036854775807 := fun c hc => by have := hnm c hc; unfold maxLen at this; omega
  have HCL : Hid (∀ V, Bel (w.alloc (.cells #[vc, vk, vu] 26)) V → V.cell? ⟨w.heap.size, 0, none⟩ = some vc ∧ V.cell? ⟨w.heap.size, 1, none⟩ = some vk ∧ V.cell? ⟨w.heap.size, 2, none⟩ = some vu) := fun V h => ⟨h.c (by go_simp), h.c (by go_simp), h.c (by go_simp)⟩
  have HSR := Lib.hid (fun (hm : l.length ≤ 1000) V (hb : Bel w V) => cdEncode_any vc vk vu vl cols key uq l V (hg.bel hb) (hc.bel hb) (hk.bel hb) (hu.bel hb) (hl.bel hb) hw hm)
  have HTR := Lib.hid (fun (hm : l.length ≤ 1000) V (hb : Bel w V) => r4Encode_any vc vk vu vl cols key uq l V (hc.bel hb) (hk.bel hb) (hu.bel hb) (hl.bel hb) hw hnm2 hm)
  have HSW := Lib.hid (fun V (hb : Bel w V) => cdWidth_any vc vk vu cols key uq V (hc.bel hb) (hk.bel hb) (hu.bel hb))
  have HTW := Lib.hid (fun V (hb : Bel w V) => r4Width_any vc vk vu cols key uq V (hc.bel hb) (hk.bel hb) (hu.bel hb) hnm2)
  have HDE := Lib.hid (fun (v : Value) (s : List UInt8) (hs : s.length ≤ 1000000) V (hb : Bel w V) (hv : BsAt V v s) => cdDecode_any vc vk vu v cols key uq s hs V (hc.bel hb) (hk.bel hb) (hu.bel hb) hv)
  have HSM : Hid (∀ V, Bel w V → ∀ v, ValsAt V v l → Calls Tryz.prog 22 #[v, vl] V fun e w' => e = .returned (.bool true) ∧ Bel V w') := fun V hb v hv => by
    have := vrSame_any v vl l l V hv (hl.bel hb)
    rw [decide_eq_true rfl] at this
    exact this
  have HPL : Hid (rowAll cols key uq l = 0 → encGives cols key uq l = (encRow cols l, 0) ∧ widR cols key uq = (leastS cols, mostS cols, 0) ∧ decR cols key uq (encRow cols l) = (l, 0) ∧ (encRow cols l).length ≤ 1624 ∧ leastS cols ≤ ((encRow cols l).length : Int) ∧ ((encRow cols l).length : Int) ≤ mostS cols) := fun h => by
    obtain ⟨hr, hlen, hf⟩ := row_parts h
    have := enc_wid hlen hf
    exact ⟨by unfold encGives; rw [if_pos h], by unfold widR; rw [if_pos hr], dec_enc h hw, enc_short h, this.1, this.2⟩
  have HPB : Hid (rowAll cols key uq l ≠ 0 → (encGives cols key uq l).2 ≠ 0) := fun h => by unfold encGives; rw [if_neg h]; exact h
  obtain ⟨Al, cl, rfl, -⟩ := id hl
  have hlm : Hid (shortB l = true → l.length ≤ 1000) := fun h => by
    unfold shortB at h
    rw [Bool.and_eq_true] at h
    have := of_decide_eq_true h.1
    omega
  clear hg hc hk hu hl hnm hw hsz hnm2
  cases hf : fewB cols key uq
  · rw [hf] at HFW
    clear hf
    go_enter Tryz.func9, Tryz.ntmps9
    go_wp2_with (first | (go_at_call 34; refine (HFW.out _ hb0).mono ?_; rintro e w4 ⟨rfl, hb4⟩) | (go_at_call 36; refine (HW.out _ (hb0.then_ hb4)).mono ?_; rintro e w9 ⟨rfl, hb9⟩))
    go_ret
    exact ⟨rfl, (hb0.then_ hb4).then_ hb9⟩
  · rw [hf] at HFW
    clear hf
    cases hs : shortB l
    · rw [hs] at HSH
      clear hs
      go_enter Tryz.func9, Tryz.ntmps9
      go_wp2_with (first | (go_at_call 34; refine (HFW.out _ hb0).mono ?_; rintro e w4 ⟨rfl, hb4⟩) | (go_at_call 35; refine (HSH.out _ (hb0.then_ hb4)).mono ?_; rintro e w' ⟨rfl, rfl⟩) | (go_at_call 36; refine (HW.out _ (hb0.then_ hb4)).mono ?_; rintro e w9 ⟨rfl, hb9⟩))
      go_ret
      exact ⟨rfl, (hb0.then_ hb4).then_ hb9⟩
    · have hl1000 := hlm.out hs
      rw [hs] at HSH
      clear hs
      have HSR := Lib.hid (HSR.out hl1000)
      have HTR := Lib.hid (HTR.out hl1000)
      have hlI : (l.length : Int) ≤ 1000 := by omega
      obtain ⟨sE, nE, hE⟩ : ∃ a b, encGives cols key uq l = (a, b) := ⟨_, _, rfl⟩
      obtain ⟨x, y, nW, hWd⟩ : ∃ a b c, widR cols key uq = (a, b, c) := ⟨_, _, _, rfl⟩
      rw [hE] at HSR HTR
      rw [hWd] at HSW HTW
      dsimp only at HSR HTR HSW HTW
      have HE := Lib.hid hE
      have HWd := Lib.hid hWd
      clear hE hWd hl1000
      go_enter Tryz.func9, Tryz.ntmps9
      go_wp2_with (first | (go_at_call 34; refine (HFW.out _ hb0).mono ?_; rintro e w4 ⟨rfl, hb4⟩; obtain ⟨q0, q1, q2⟩ := HCL.out w4 hb4) | (go_at_call 35; refine (HSH.out _ (hb0.then_ hb4)).mono ?_; rintro e w' ⟨rfl, rfl⟩))
      refine (HSR.out _ (hb0.then_ hb4)).mono ?_
      rintro e w5 ⟨v5, rfl, hv5, hb5⟩
      have HV5 := Lib.hid hv5
      obtain ⟨A5, c5, rfl, -, hm5, r5⟩ := hv5
      obtain ⟨q0, q1, q2⟩ := HCL.out w5 (hb4.then_ hb5)
      have HB5 := Lib.hid (hb4.then_ hb5)
      have hsI : (sE.length : Int) ≤ 9223372036854775807 := by have := HV5.out; obtain ⟨_, _, _, h1, h2, -⟩ := this; unfold maxLen at h2; omega
      clear hb4 hb5 hm5 r5 HFW HSH HSR
      go_wp2_with fail
      refine (HTR.out _ (hb0.then_ HB5.out)).mono ?_
      rintro e w6 ⟨v6, rfl, hv6, hb6⟩
      have HV6 := Lib.hid hv6
      obtain ⟨A6, c6, rfl, -, -, -⟩ := hv6
      obtain ⟨q0, q1, q2⟩ := HCL.out w6 (HB5.out.then_ hb6)
      have HB6 := Lib.hid hb6
      clear hb6 HTR
      go_wp2_with fail
      refine (HSW.out _ ((hb0.then_ HB5.out).then_ HB6.out)).mono ?_
      rintro e w7 ⟨rfl, hb7⟩
      obtain ⟨q0, q1, q2⟩ := HCL.out w7 ((HB5.out.then_ HB6.out).then_ hb7)
      have HB7 := Lib.hid hb7
      clear hb7 HSW
      go_wp2_with fail
      refine (HTW.out _ (((hb0.then_ HB5.out).then_ HB6.out).then_ HB7.out)).mono ?_
      rintro e w8 ⟨rfl, hb8⟩
      obtain ⟨q0, q1, q2⟩ := HCL.out w8 (((HB5.out.then_ HB6.out).then_ HB7.out).then_ hb8)
      have HB8 := Lib.hid (((hb0.then_ HB5.out).then_ HB6.out).then_ (HB7.out.then_ hb8))
      have HC8 := Lib.hid (((HB5.out.then_ HB6.out).then_ HB7.out).then_ hb8)
      have HV58 := Lib.hid (HV5.out.bel (HB6.out.then_ (HB7.out.then_ hb8)))
      have hc5 : (convert 63 9 (.slice A5 sE.length c5)).run Tryz.prog w8 = .ok (.string ⟨sE.toArray⟩) w8 := by
        obtain ⟨A, c, he, -, -, hr⟩ := HV58.out
        injection he with e1 e2 e3
        subst e1 e3
        exact conv_reads (s := sE) _ hr
      have hc6 : (convert 63 9 (.slice A6 sE.length c6)).run Tryz.prog w8 = .ok (.string ⟨sE.toArray⟩) w8 := by
        obtain ⟨A, c, he, -, -, hr⟩ := HV6.out.bel (HB7.out.then_ hb8)
        injection he with e1 e2 e3
        subst e1 e3
        exact conv_reads (s := sE) _ hr
      clear hb8 HTW HB5 HB6 HB7 HV5 HV6 hb0
      by_cases h0 : rowAll cols key uq l = 0
      · obtain ⟨p1, p2, p3, p4, p5, p6⟩ := HPL.out h0
        rw [HE.out] at p1
        rw [HWd.out] at p2
        injection p1 with e1 e2
        injection p2 with e3 e4
        injection e4 with e4 e5
        subst e2 e5
        rw [← e1] at p3 p4 p5 p6
        rw [← e3] at p5
        rw [← e4] at p6
        have HDX := Lib.hid (HDE.out (.slice A5 sE.length c5) sE (by omega) w8 HB8.out HV58.out)
        rw [p3] at HDX
        dsimp only at HDX
        clear p3 p4 e1 e3 e4 h0 HPL HPB HE HWd HV58
        go_wp2_with (go_at_call 41; refine (knum_any _ _).mono ?_; rintro e w' ⟨rfl, rfl⟩)
        refine HDX.out.mono ?_
        rintro e w9 ⟨v9, rfl, hv9, hb9⟩
        have HSX := Lib.hid (HSM.out w9 (HB8.out.then_ hb9) v9 hv9)
        obtain ⟨A9, c9, rfl, -⟩ := hv9
        have HB9 := Lib.hid (HB8.out.then_ hb9)
        clear hb9 hc5 hc6
        go_wp2_with (first | (go_at_call 22; refine HSX.out.mono ?_; rintro e w10 ⟨rfl, hb10⟩) | (go_at_call 41; refine (knum_any _ _).mono ?_; rintro e w' ⟨rfl, rfl⟩) | (go_at_call 36; refine (HW.out _ (HB9.out.then_ hb10)).mono ?_; rintro e w11 ⟨rfl, hb11⟩))
        go_ret
        exact ⟨rfl, (HB9.out.then_ hb10).then_ hb11⟩
      · have hn := HPB.out h0
        rw [HE.out] at hn
        have hn0 : (nE != 0) = true := by rw [bne_iff_ne]; exact hn
        clear h0 hn HPL HPB HE HWd HV58 HDE HSM
        go_wp2_with (first | (go_at_call 41; refine (knum_any _ _).mono ?_; rintro e w' ⟨rfl, rfl⟩) | (go_at_call 36; refine (HW.out _ HB8.out).mono ?_; rintro e w11 ⟨rfl, hb11⟩))
        go_ret
        exact ⟨rfl, HB8.out.then_ hb11⟩
end Go.Proofs.YtkklmflclmgjeaaGreatDoor
