/-
  The document's answer for layer 3: columns, which numbers with a sign fit one.
-/
import Derived.Test.YtkklmflclmgjeaaGreatDoorSf
set_option linter.unusedVariables false
set_option linter.unusedSimpArgs false
set_option linter.unusedVariables false
set_option linter.unusedSimpArgs false
namespace Go.Proofs.YtkklmflclmgjeaaGreatDoor
open Go.RowKit Go.Shelf Go.Lib
attribute [local go_sem] Oper.semAt_some

set_option maxHeartbeats 4000000 in
theorem tcolumn_any (c : Col) (hm : c.name.size ≤ 9223372036854775807) (w : World) : Calls Tryz.prog 56 #[c.v] w fun e w' => e = .returned (.bool (rightB c)) ∧ Bel w w' := by
  obtain ⟨name, t, z, null⟩ := c
  obtain ⟨nb, hnb⟩ : ∃ nb, nb = namedB name := ⟨_, rfl⟩
  have HNM := Lib.hid (fun V => tName_any name hm V)
  rw [← hnb] at HNM
  have hR : rightB ⟨name, t, z, null⟩ = (decide (1 ≤ t ∧ t ≤ 4) && nb && sizeB t z) := by unfold rightB; rw [hnb]
  rw [hR]
  clear hR hnb hm
  unfold Col.v
  dsimp only
  by_cases ht : 1 ≤ t ∧ t ≤ 4
  · have hc : t = 1 ∨ t = 2 ∨ t = 3 ∨ t = 4 := by omega
    clear ht
    rcases hc with rfl | rfl | rfl | rfl
    all_goals
      cases nb
      all_goals
        simp only [Bool.and_false, Bool.false_and, Bool.and_true, Bool.true_and, sizeB]
        go_enter Tryz.func56, Tryz.ntmps56
        go_wp2_with (go_at_call 99; refine (HNM.out _).mono ?_; rintro e w' ⟨rfl, rfl⟩)
        all_goals
          go_ret
          refine ⟨?_, by (repeat (first | exact Below.refl _ _ | assumption | exact Bel.refl _ | refine Bel.alloc ?_ _ | refine Bel.drew ?_ | refine Bel.drewN ?_ _ | refine Bel.then_ ?_ (by assumption) | refine Bel.setCell ?_ (by first | (simp; done) | (simp; omega)) _))⟩
          show Ending.returned (Value.bool _) = _
          simp_all
          try first | omega | (rw [Bool.eq_iff_iff]; simp; done) | (rw [Bool.eq_iff_iff]; simp; omega)
  · rw [decide_eq_false ht]
    have h1 : (t == 1) = false := by rw [beq_eq_false_iff_ne]; omega
    have h2 : (t == 2) = false := by rw [beq_eq_false_iff_ne]; omega
    have h3 : (t == 3) = false := by rw [beq_eq_false_iff_ne]; omega
    have h4 : (t == 4) = false := by rw [beq_eq_false_iff_ne]; omega
    clear ht
    go_enter Tryz.func56, Tryz.ntmps56
    go_wp2_with fail
    go_ret
    exact ⟨rfl, by (repeat (first | exact Below.refl _ _ | assumption | exact Bel.refl _ | refine Bel.alloc ?_ _ | refine Bel.drew ?_ | refine Bel.drewN ?_ _ | refine Bel.then_ ?_ (by assumption) | refine Bel.setCell ?_ (by first | (simp; done) | (simp; omega)) _))⟩
theorem tleast_any (z : Int) (hz : z = 1 ∨ z = 2 ∨ z = 4 ∨ z = 8) (w : World) : Calls Tryz.prog 58 #[.int .i64 z] w fun e w' => e = .returned (.int .i64 (leastI z)) ∧ Bel w w' := by
  rcases hz with rfl | rfl | rfl | rfl
  all_goals
    go_enter Tryz.func58, Tryz.ntmps58
    go_wp2
    go_ret
    exact ⟨rfl, by (repeat (first | exact Below.refl _ _ | assumption | exact Bel.refl _ | refine Bel.alloc ?_ _ | refine Bel.drew ?_ | refine Bel.drewN ?_ _ | refine Bel.then_ ?_ (by assumption) | refine Bel.setCell ?_ (by first | (simp; done) | (simp; omega)) _))⟩
theorem tmost_any (z : Int) (hz : z = 1 ∨ z = 2 ∨ z = 4 ∨ z = 8) (w : World) : Calls Tryz.prog 59 #[.int .i64 z] w fun e w' => e = .returned (.int .u64 (mostI z)) ∧ Bel w w' := by
  rcases hz with rfl | rfl | rfl | rfl
  all_goals
    go_enter Tryz.func59, Tryz.ntmps59
    go_wp2
    go_ret
    exact ⟨rfl, by (repeat (first | exact Below.refl _ _ | assumption | exact Bel.refl _ | refine Bel.alloc ?_ _ | refine Bel.drew ?_ | refine Bel.drewN ?_ _ | refine Bel.then_ ?_ (by assumption) | refine Bel.setCell ?_ (by first | (simp; done) | (simp; omega)) _))⟩
set_option maxRecDepth 100000 in
set_option maxHeartbeats 8000000 in
theorem tFitsInt_any (c : Col) (hm : c.name.size ≤ 9223372036854775807) (x : Val) (hx : x.Wf) (Hrb0 : rightB c = true) (Hci0 : checkI x = 0) (Hk0 : x.k = 1) (Ht0 : c.t = 1) (w : World) : Calls Tryz.prog 24 #[c.v, x.v] w fun e w' => e = .returned (.int .i64 (fitsI c x)) ∧ Bel w w' := by
  have HCO := Lib.hid (fun V => tcolumn_any c hm V)
  have HCH := Lib.hid (fun V => vrCheck_any x V)
  obtain ⟨R, hR⟩ : ∃ R, R = fitsI c x := ⟨_, rfl⟩
  rw [← hR]
  have HR := Lib.hid hR
  clear hR
  obtain ⟨rb, hrb⟩ : ∃ rb, rb = rightB c := ⟨_, rfl⟩
  rw [← hrb] at HCO
  have HRB := Lib.hid hrb
  obtain ⟨ci, hci⟩ : ∃ ci, ci = checkI x := ⟨_, rfl⟩
  rw [← hci] at HCH
  have HCI := Lib.hid hci
  clear hrb hci hm
  obtain ⟨name, t, z, null⟩ := c
  obtain ⟨k, n, u, b⟩ := x
  obtain ⟨n0, n1, u0, u1⟩ := hx
  unfold Val.v Col.v at *
  dsimp only at *
  have HCL : Hid (∀ V, Bel ((w.alloc (.cells #[.string name, .int .i64 t, .int .i64 z, .bool null] 44)).alloc (.cells #[.int .i64 k, .int .i64 n, .int .u64 u, .string b] 48)) V →
    (V.cell? ⟨w.heap.size, 0, none⟩ = some (.string name) ∧ V.cell? ⟨w.heap.size, 1, none⟩ = some (.int .i64 t) ∧ V.cell? ⟨w.heap.size, 2, none⟩ = some (.int .i64 z) ∧ V.cell? ⟨w.heap.size, 3, none⟩ = some (.bool null) ∧
     V.cell? ⟨w.heap.size + 1, 0, none⟩ = some (.int .i64 k) ∧ V.cell? ⟨w.heap.size + 1, 1, none⟩ = some (.int .i64 n) ∧ V.cell? ⟨w.heap.size + 1, 2, none⟩ = some (.int .u64 u) ∧ V.cell? ⟨w.heap.size + 1, 3, none⟩ = some (.string b)) ∧ Bel w V) :=
    fun V h => ⟨⟨h.c (by go_simp), h.c (by go_simp), h.c (by go_simp), h.c (by go_simp), h.c (by go_simp), h.c (by go_simp), h.c (by go_simp), h.c (by go_simp)⟩, (((Bel.refl w).alloc _).alloc _).then_ h⟩
  have E1 : rb = true := by rw [HRB.out]; exact Hrb0
  have E2 : ci = 0 := by rw [HCI.out]; exact Hci0
  subst E1 E2
  clear Hrb0 Hci0
  subst Hk0 Ht0
  have HT : Hid ((1 : Int) ≤ 1 ∧ (1 : Int) ≤ 4) := ⟨by decide, by decide⟩
  have HSZ : Hid (sizeB 1 z = true) := by show _ = _; have h := HRB.out; unfold rightB at h; simp at h; exact h.2
  have hR1 : R = if fitB 1 z ⟨1, n, u, b⟩ = false then 133 else 0 := by
    rw [HR.out]; unfold fitsI; rw [if_neg (by rw [← HRB.out]; simp), if_neg (by rw [← HCI.out]; simp), if_neg (by simp), if_neg (by simp)]
  clear HR HRB HCI
  · have hz : z = 1 ∨ z = 2 ∨ z = 4 ∨ z = 8 := by have := HSZ.out; unfold sizeB at this; simpa using this
    have HR1 : Hid (R = if leastI z ≤ n ∧ n ≤ -(leastI z + 1) then 0 else 133) := by show _ = _; rw [hR1]; unfold fitB; simp only [if_true]; split <;> simp_all
    have HLE := Lib.hid (fun V => tleast_any z hz V)
    clear hR1 HSZ
    rcases hz with rfl | rfl | rfl | rfl
    · simp only [leastI] at HLE HR1
      have v1 : IntKind.i64.wrap (-127) = -127 := by decide
      have v2 : IntKind.i64.wrap 127 = 127 := by decide
      have v3 : IntKind.i64.wrap (-128 + 1) = -127 := by decide
      have v4 : IntKind.i64.wrap (-(-127)) = 127 := by decide
      go_enter Tryz.func24, Tryz.ntmps24
      go_wp2_with (first | (go_at_call 56; refine (HCO.out _).mono ?_; rintro e w4 ⟨rfl, hb4⟩; obtain ⟨⟨a0, a1, a2, a3, c0, c1, c2, c3⟩, hB4⟩ := HCL.out _ hb4) | (go_at_call 57; refine (HCH.out _).mono ?_; rintro e w5 ⟨rfl, hb5⟩; obtain ⟨⟨d0, d1, d2, d3, e0, e1, e2, e3⟩, hB5⟩ := HCL.out _ (hb4.then_ hb5)))
      have hS : ∀ V, Bel w5 V → (V.cell? ⟨w.heap.size, 2, none⟩ = some (.int .i64 1) ∧ V.cell? ⟨w.heap.size + 1, 1, none⟩ = some (.int .i64 n) ∧ V.cell? ⟨w.heap.size + 1, 2, none⟩ = some (.int .u64 u) ∧ Bel w5 V) := fun V h => ⟨h.c d2, h.c e1, h.c e2, h⟩
      by_cases hl : n < -128
      · have hR2 : R = 133 := by rw [HR1.out, if_neg (by omega)]
        refine wp_region_noPanic ?_
        refine wp_region_held_drew (S := (fun V : World => V.cell? ⟨w.heap.size, 2, none⟩ = some (.int .i64 1) ∧ V.cell? ⟨w.heap.size + 1, 1, none⟩ = some (.int .i64 n) ∧ V.cell? ⟨w.heap.size + 1, 2, none⟩ = some (.int .u64 u) ∧ Bel w5 V)) (by kernel_rfl) ?_ (fun hHr1_0 => ?_)
        · (try dsimp only); (first | assumption | exact hS _ (Bel.refl w5).drew | exact hS _ hB6 | exact hS _ (hB6.then_ hb7))
        refine wpAnyH_take (i := 0) (oi := _) (v := ?vr1_1_0) rfl (by kernel_rfl) (by kernel_rfl) (by kernel_rfl) ?hqr1_1_0 (Or.inl ⟨by kernel_rfl, ?hyr1_1_0⟩) (by assumption) ?restr1_1_0
        case hqr1_1_0 => exact fun _ _ _ h => h
        case hyr1_1_0 => (intro w hSw; (try dsimp only at hSw); go_simp; try with_reducible rfl)
        try simp only [Act.put, List.getElem_toArray, List.getElem_cons_succ, List.getElem_cons_zero, List.setIfInBounds_toArray, List.set_cons_zero, List.set_cons_succ]
        refine wpAnyH_take (i := 1) (oi := _) (v := ?vr1_1_1) rfl (by kernel_rfl) (by kernel_rfl) (by kernel_rfl) ?hqr1_1_1 (Or.inl ⟨by kernel_rfl, ?hyr1_1_1⟩) (by assumption) ?restr1_1_1
        case hqr1_1_1 => exact fun _ _ _ h => h
        case hyr1_1_1 => (intro w hSw; (try dsimp only at hSw); go_simp; try with_reducible rfl)
        try simp only [Act.put, List.getElem_toArray, List.getElem_cons_succ, List.getElem_cons_zero, List.setIfInBounds_toArray, List.set_cons_zero, List.set_cons_succ]
        refine wpAnyH_take (i := 2) (oi := _) (v := ?vr1_1_2) rfl (by kernel_rfl) (by kernel_rfl) (by kernel_rfl) ?hqr1_1_2 (Or.inl ⟨by kernel_rfl, ?hyr1_1_2⟩) (by assumption) ?restr1_1_2
        case hqr1_1_2 => exact fun _ _ _ h => h
        case hyr1_1_2 => (intro w hSw; (try dsimp only at hSw); go_simp; try with_reducible rfl)
        try simp only [Act.put, List.getElem_toArray, List.getElem_cons_succ, List.getElem_cons_zero, List.setIfInBounds_toArray, List.set_cons_zero, List.set_cons_succ]
        refine wpAnyH_take (i := 3) (oi := _) (v := ?vr1_1_3) rfl (by kernel_rfl) (by kernel_rfl) (by kernel_rfl) ?hqr1_1_3 (Or.inl ⟨by kernel_rfl, ?hyr1_1_3⟩) (by assumption) ?restr1_1_3
        case hqr1_1_3 => exact fun _ _ _ h => h
        case hyr1_1_3 => (intro w hSw; (try dsimp only at hSw); go_simp; try with_reducible rfl)
        try simp only [Act.put, List.getElem_toArray, List.getElem_cons_succ, List.getElem_cons_zero, List.setIfInBounds_toArray, List.set_cons_zero, List.set_cons_succ]
        refine wpAnyH_take (i := 4) (oi := _) (v := ?vr1_1_4) rfl (by kernel_rfl) (by kernel_rfl) (by kernel_rfl) ?hqr1_1_4 (Or.inl ⟨by kernel_rfl, ?hyr1_1_4⟩) (by assumption) ?restr1_1_4
        case hqr1_1_4 => exact fun _ _ _ h => h
        case hyr1_1_4 => (intro w hSw; (try dsimp only at hSw); go_simp; try with_reducible rfl)
        try simp only [Act.put, List.getElem_toArray, List.getElem_cons_succ, List.getElem_cons_zero, List.setIfInBounds_toArray, List.set_cons_zero, List.set_cons_succ]
        refine wpAnyH_take (i := 5) (oi := _) (v := ?vr1_1_5) rfl (by kernel_rfl) (by kernel_rfl) (by kernel_rfl) ?hqr1_1_5 (Or.inl ⟨by kernel_rfl, ?hyr1_1_5⟩) (by assumption) ?restr1_1_5
        case hqr1_1_5 => exact fun _ _ _ h => h
        case hyr1_1_5 => (intro w hSw; (try dsimp only at hSw); go_simp; try with_reducible rfl)
        try simp only [Act.put, List.getElem_toArray, List.getElem_cons_succ, List.getElem_cons_zero, List.setIfInBounds_toArray, List.set_cons_zero, List.set_cons_succ]
        refine wpAnyH_take (i := 6) (oi := _) (v := ?vr1_1_6) rfl (by kernel_rfl) (by kernel_rfl) (by kernel_rfl) ?hqr1_1_6 (Or.inl ⟨by kernel_rfl, ?hyr1_1_6⟩) (by assumption) ?restr1_1_6
        case hqr1_1_6 => exact fun _ _ _ h => h
        case hyr1_1_6 => (intro w hSw; (try dsimp only at hSw); go_simp; try with_reducible rfl)
        try simp only [Act.put, List.getElem_toArray, List.getElem_cons_succ, List.getElem_cons_zero, List.setIfInBounds_toArray, List.set_cons_zero, List.set_cons_succ]
        refine wpAnyH_ready (rs := [7]) (by kernel_rfl) (by simp) ?_
        refine AllReadyH.cons (o := _) rfl (fun K hK => ?_) AllReadyH.nil
        go_simp
        (go_at_call 58; refine (HLE.out _).mono ?_; rintro e w6 ⟨rfl, hb6⟩; have hB6 : Bel w5 w6 := Bel.then_ (Bel.refl w5).drew hb6)
        try (go_wp2_with fail)
        refine hK.out _ _ ?_ (fun hHr1_1 => ?_)
        · (try dsimp only); (first | assumption | exact hS _ (Bel.refl w5).drew | exact hS _ hB6 | exact hS _ (hB6.then_ hb7))
        clear hK K hHr1_0
        try simp only [Act.put, List.getElem_toArray, List.getElem_cons_succ, List.getElem_cons_zero, List.setIfInBounds_toArray, List.set_cons_zero, List.set_cons_succ]
        refine wpAnyH_take (i := 8) (oi := _) (v := ?vr1_1_8) rfl (by kernel_rfl) (by kernel_rfl) (by kernel_rfl) ?hqr1_1_8 (Or.inl ⟨by kernel_rfl, ?hyr1_1_8⟩) (by assumption) ?restr1_1_8
        case hqr1_1_8 => exact fun _ _ _ h => h
        case hyr1_1_8 => (intro w hSw; (try dsimp only at hSw); go_simp; try with_reducible rfl)
        try simp only [Act.put, List.getElem_toArray, List.getElem_cons_succ, List.getElem_cons_zero, List.setIfInBounds_toArray, List.set_cons_zero, List.set_cons_succ]
        refine wpAnyH_take (i := 9) (oi := _) (v := ?vr1_1_9) rfl (by kernel_rfl) (by kernel_rfl) (by kernel_rfl) ?hqr1_1_9 (Or.inl ⟨by kernel_rfl, ?hyr1_1_9⟩) (by assumption) ?restr1_1_9
        case hqr1_1_9 => exact fun _ _ _ h => h
        case hyr1_1_9 => (intro w hSw; (try dsimp only at hSw); go_simp; try with_reducible rfl)
        try simp only [Act.put, List.getElem_toArray, List.getElem_cons_succ, List.getElem_cons_zero, List.setIfInBounds_toArray, List.set_cons_zero, List.set_cons_succ]
        refine wpAnyH_take (i := 10) (oi := _) (v := undef) rfl (by kernel_rfl) (by kernel_rfl) (by kernel_rfl) (fun _ _ _ h => h) (Or.inr ⟨by kernel_rfl, rfl⟩) (by assumption) ?restr1_1_10
        try simp only [Act.put, List.getElem_toArray, List.getElem_cons_succ, List.getElem_cons_zero, List.setIfInBounds_toArray, List.set_cons_zero, List.set_cons_succ]
        refine wpAnyH_take (i := 11) (oi := _) (v := undef) rfl (by kernel_rfl) (by kernel_rfl) (by kernel_rfl) (fun _ _ _ h => h) (Or.inr ⟨by kernel_rfl, rfl⟩) (by assumption) ?restr1_1_11
        try simp only [Act.put, List.getElem_toArray, List.getElem_cons_succ, List.getElem_cons_zero, List.setIfInBounds_toArray, List.set_cons_zero, List.set_cons_succ]
        refine wpAnyH_take (i := 12) (oi := _) (v := undef) rfl (by kernel_rfl) (by kernel_rfl) (by kernel_rfl) (fun _ _ _ h => h) (Or.inr ⟨by kernel_rfl, rfl⟩) (by assumption) ?restr1_1_12
        try simp only [Act.put, List.getElem_toArray, List.getElem_cons_succ, List.getElem_cons_zero, List.setIfInBounds_toArray, List.set_cons_zero, List.set_cons_succ]
        refine wpAnyH_take (i := 13) (oi := _) (v := undef) rfl (by kernel_rfl) (by kernel_rfl) (by kernel_rfl) (fun _ _ _ h => h) (Or.inr ⟨by kernel_rfl, rfl⟩) (by assumption) ?restr1_1_13
        try simp only [Act.put, List.getElem_toArray, List.getElem_cons_succ, List.getElem_cons_zero, List.setIfInBounds_toArray, List.set_cons_zero, List.set_cons_succ]
        refine wpAnyH_take (i := 14) (oi := _) (v := undef) rfl (by kernel_rfl) (by kernel_rfl) (by kernel_rfl) (fun _ _ _ h => h) (Or.inr ⟨by kernel_rfl, rfl⟩) (by assumption) ?restr1_1_14
        try simp only [Act.put, List.getElem_toArray, List.getElem_cons_succ, List.getElem_cons_zero, List.setIfInBounds_toArray, List.set_cons_zero, List.set_cons_succ]
        refine wpAnyH_take (i := 15) (oi := _) (v := undef) rfl (by kernel_rfl) (by kernel_rfl) (by kernel_rfl) (fun _ _ _ h => h) (Or.inr ⟨by kernel_rfl, rfl⟩) (by assumption) ?restr1_1_15
        try simp only [Act.put, List.getElem_toArray, List.getElem_cons_succ, List.getElem_cons_zero, List.setIfInBounds_toArray, List.set_cons_zero, List.set_cons_succ]
        refine wpAnyH_take (i := 16) (oi := _) (v := undef) rfl (by kernel_rfl) (by kernel_rfl) (by kernel_rfl) (fun _ _ _ h => h) (Or.inr ⟨by kernel_rfl, rfl⟩) (by assumption) ?restr1_1_16
        try simp only [Act.put, List.getElem_toArray, List.getElem_cons_succ, List.getElem_cons_zero, List.setIfInBounds_toArray, List.set_cons_zero, List.set_cons_succ]
        refine wpAnyH_take (i := 17) (oi := _) (v := undef) rfl (by kernel_rfl) (by kernel_rfl) (by kernel_rfl) (fun _ _ _ h => h) (Or.inr ⟨by kernel_rfl, rfl⟩) (by assumption) ?restr1_1_17
        try simp only [Act.put, List.getElem_toArray, List.getElem_cons_succ, List.getElem_cons_zero, List.setIfInBounds_toArray, List.set_cons_zero, List.set_cons_succ]
        refine wpAnyH_take (i := 18) (oi := _) (v := ?vr1_1_18) rfl (by kernel_rfl) (by kernel_rfl) (by kernel_rfl) ?hqr1_1_18 (Or.inl ⟨by kernel_rfl, ?hyr1_1_18⟩) (by assumption) ?restr1_1_18
        case hqr1_1_18 => exact fun _ _ _ h => h
        case hyr1_1_18 => (intro w hSw; (try dsimp only at hSw); go_simp; try with_reducible rfl)
        try simp only [Act.put, List.getElem_toArray, List.getElem_cons_succ, List.getElem_cons_zero, List.setIfInBounds_toArray, List.set_cons_zero, List.set_cons_succ]
        refine wpAnyH_take (i := 19) (oi := _) (v := ?vr1_1_19) rfl (by kernel_rfl) (by kernel_rfl) (by kernel_rfl) ?hqr1_1_19 (Or.inl ⟨by kernel_rfl, ?hyr1_1_19⟩) (by assumption) ?restr1_1_19
        case hqr1_1_19 => exact fun _ _ _ h => h
        case hyr1_1_19 => (intro w hSw; (try dsimp only at hSw); go_simp; try with_reducible rfl)
        try simp only [Act.put, List.getElem_toArray, List.getElem_cons_succ, List.getElem_cons_zero, List.setIfInBounds_toArray, List.set_cons_zero, List.set_cons_succ]
        refine wpAnyH_take (i := 20) (oi := _) (v := ?vr1_1_20) rfl (by kernel_rfl) (by kernel_rfl) (by kernel_rfl) ?hqr1_1_20 (Or.inl ⟨by kernel_rfl, ?hyr1_1_20⟩) (by assumption) ?restr1_1_20
        case hqr1_1_20 => exact fun _ _ _ h => h
        case hyr1_1_20 => (intro w hSw; (try dsimp only at hSw); go_simp; try with_reducible rfl)
        try simp only [Act.put, List.getElem_toArray, List.getElem_cons_succ, List.getElem_cons_zero, List.setIfInBounds_toArray, List.set_cons_zero, List.set_cons_succ]
        refine wpAnyH_done (by kernel_rfl) ?_ _
        refine NoPanic.normal ?_
        go_wp2
        go_ret
        exact ⟨by rw [hR2]; rfl, hB5.then_ (by assumption : _ ∧ _ ∧ _ ∧ Bel w5 _).2.2.2⟩
      · have hlb : decide (n < -128) = false := by simp; omega
        by_cases hu : 127 < n
        · have hR2 : R = 133 := by rw [HR1.out, if_neg (by omega)]
          refine wp_region_noPanic ?_
          refine wp_region_held_drew (S := (fun V : World => V.cell? ⟨w.heap.size, 2, none⟩ = some (.int .i64 1) ∧ V.cell? ⟨w.heap.size + 1, 1, none⟩ = some (.int .i64 n) ∧ V.cell? ⟨w.heap.size + 1, 2, none⟩ = some (.int .u64 u) ∧ Bel w5 V)) (by kernel_rfl) ?_ (fun hHr2_0 => ?_)
          · (try dsimp only); (first | assumption | exact hS _ (Bel.refl w5).drew | exact hS _ hB6 | exact hS _ (hB6.then_ hb7))
          refine wpAnyH_take (i := 0) (oi := _) (v := ?vr2_1_0) rfl (by kernel_rfl) (by kernel_rfl) (by kernel_rfl) ?hqr2_1_0 (Or.inl ⟨by kernel_rfl, ?hyr2_1_0⟩) (by assumption) ?restr2_1_0
          case hqr2_1_0 => exact fun _ _ _ h => h
          case hyr2_1_0 => (intro w hSw; (try dsimp only at hSw); go_simp; try with_reducible rfl)
          try simp only [Act.put, List.getElem_toArray, List.getElem_cons_succ, List.getElem_cons_zero, List.setIfInBounds_toArray, List.set_cons_zero, List.set_cons_succ]
          refine wpAnyH_take (i := 1) (oi := _) (v := ?vr2_1_1) rfl (by kernel_rfl) (by kernel_rfl) (by kernel_rfl) ?hqr2_1_1 (Or.inl ⟨by kernel_rfl, ?hyr2_1_1⟩) (by assumption) ?restr2_1_1
          case hqr2_1_1 => exact fun _ _ _ h => h
          case hyr2_1_1 => (intro w hSw; (try dsimp only at hSw); go_simp; try with_reducible rfl)
          try simp only [Act.put, List.getElem_toArray, List.getElem_cons_succ, List.getElem_cons_zero, List.setIfInBounds_toArray, List.set_cons_zero, List.set_cons_succ]
          refine wpAnyH_take (i := 2) (oi := _) (v := ?vr2_1_2) rfl (by kernel_rfl) (by kernel_rfl) (by kernel_rfl) ?hqr2_1_2 (Or.inl ⟨by kernel_rfl, ?hyr2_1_2⟩) (by assumption) ?restr2_1_2
          case hqr2_1_2 => exact fun _ _ _ h => h
          case hyr2_1_2 => (intro w hSw; (try dsimp only at hSw); go_simp; try with_reducible rfl)
          try simp only [Act.put, List.getElem_toArray, List.getElem_cons_succ, List.getElem_cons_zero, List.setIfInBounds_toArray, List.set_cons_zero, List.set_cons_succ]
          refine wpAnyH_take (i := 3) (oi := _) (v := ?vr2_1_3) rfl (by kernel_rfl) (by kernel_rfl) (by kernel_rfl) ?hqr2_1_3 (Or.inl ⟨by kernel_rfl, ?hyr2_1_3⟩) (by assumption) ?restr2_1_3
          case hqr2_1_3 => exact fun _ _ _ h => h
          case hyr2_1_3 => (intro w hSw; (try dsimp only at hSw); go_simp; try with_reducible rfl)
          try simp only [Act.put, List.getElem_toArray, List.getElem_cons_succ, List.getElem_cons_zero, List.setIfInBounds_toArray, List.set_cons_zero, List.set_cons_succ]
          refine wpAnyH_take (i := 4) (oi := _) (v := ?vr2_1_4) rfl (by kernel_rfl) (by kernel_rfl) (by kernel_rfl) ?hqr2_1_4 (Or.inl ⟨by kernel_rfl, ?hyr2_1_4⟩) (by assumption) ?restr2_1_4
          case hqr2_1_4 => exact fun _ _ _ h => h
          case hyr2_1_4 => (intro w hSw; (try dsimp only at hSw); go_simp; try with_reducible rfl)
          try simp only [Act.put, List.getElem_toArray, List.getElem_cons_succ, List.getElem_cons_zero, List.setIfInBounds_toArray, List.set_cons_zero, List.set_cons_succ]
          refine wpAnyH_take (i := 5) (oi := _) (v := ?vr2_1_5) rfl (by kernel_rfl) (by kernel_rfl) (by kernel_rfl) ?hqr2_1_5 (Or.inl ⟨by kernel_rfl, ?hyr2_1_5⟩) (by assumption) ?restr2_1_5
          case hqr2_1_5 => exact fun _ _ _ h => h
          case hyr2_1_5 => (intro w hSw; (try dsimp only at hSw); go_simp; try with_reducible rfl)
          try simp only [Act.put, List.getElem_toArray, List.getElem_cons_succ, List.getElem_cons_zero, List.setIfInBounds_toArray, List.set_cons_zero, List.set_cons_succ]
          refine wpAnyH_take (i := 6) (oi := _) (v := ?vr2_1_6) rfl (by kernel_rfl) (by kernel_rfl) (by kernel_rfl) ?hqr2_1_6 (Or.inl ⟨by kernel_rfl, ?hyr2_1_6⟩) (by assumption) ?restr2_1_6
          case hqr2_1_6 => exact fun _ _ _ h => h
          case hyr2_1_6 => (intro w hSw; (try dsimp only at hSw); go_simp; try with_reducible rfl)
          try simp only [Act.put, List.getElem_toArray, List.getElem_cons_succ, List.getElem_cons_zero, List.setIfInBounds_toArray, List.set_cons_zero, List.set_cons_succ]
          refine wpAnyH_ready (rs := [7]) (by kernel_rfl) (by simp) ?_
          refine AllReadyH.cons (o := _) rfl (fun K hK => ?_) AllReadyH.nil
          go_simp
          (go_at_call 58; refine (HLE.out _).mono ?_; rintro e w6 ⟨rfl, hb6⟩; have hB6 : Bel w5 w6 := Bel.then_ (Bel.refl w5).drew hb6)
          try (go_wp2_with fail)
          refine hK.out _ _ ?_ (fun hHr2_1 => ?_)
          · (try dsimp only); (first | assumption | exact hS _ (Bel.refl w5).drew | exact hS _ hB6 | exact hS _ (hB6.then_ hb7))
          clear hK K hHr2_0
          try simp only [Act.put, List.getElem_toArray, List.getElem_cons_succ, List.getElem_cons_zero, List.setIfInBounds_toArray, List.set_cons_zero, List.set_cons_succ]
          refine wpAnyH_take (i := 8) (oi := _) (v := ?vr2_1_8) rfl (by kernel_rfl) (by kernel_rfl) (by kernel_rfl) ?hqr2_1_8 (Or.inl ⟨by kernel_rfl, ?hyr2_1_8⟩) (by assumption) ?restr2_1_8
          case hqr2_1_8 => exact fun _ _ _ h => h
          case hyr2_1_8 => (intro w hSw; (try dsimp only at hSw); go_simp; try with_reducible rfl)
          try simp only [Act.put, List.getElem_toArray, List.getElem_cons_succ, List.getElem_cons_zero, List.setIfInBounds_toArray, List.set_cons_zero, List.set_cons_succ]
          refine wpAnyH_take (i := 9) (oi := _) (v := ?vr2_1_9) rfl (by kernel_rfl) (by kernel_rfl) (by kernel_rfl) ?hqr2_1_9 (Or.inl ⟨by kernel_rfl, ?hyr2_1_9⟩) (by assumption) ?restr2_1_9
          case hqr2_1_9 => exact fun _ _ _ h => h
          case hyr2_1_9 => (intro w hSw; (try dsimp only at hSw); go_simp; try with_reducible rfl)
          try simp only [Act.put, List.getElem_toArray, List.getElem_cons_succ, List.getElem_cons_zero, List.setIfInBounds_toArray, List.set_cons_zero, List.set_cons_succ]
          refine wpAnyH_take (i := 10) (oi := _) (v := ?vr2_1_10) rfl (by kernel_rfl) (by kernel_rfl) (by kernel_rfl) ?hqr2_1_10 (Or.inl ⟨by kernel_rfl, ?hyr2_1_10⟩) (by assumption) ?restr2_1_10
          case hqr2_1_10 => exact fun _ _ _ h => h
          case hyr2_1_10 => (intro w hSw; (try dsimp only at hSw); go_simp; try with_reducible rfl)
          try simp only [Act.put, List.getElem_toArray, List.getElem_cons_succ, List.getElem_cons_zero, List.setIfInBounds_toArray, List.set_cons_zero, List.set_cons_succ]
          refine wpAnyH_take (i := 11) (oi := _) (v := ?vr2_1_11) rfl (by kernel_rfl) (by kernel_rfl) (by kernel_rfl) ?hqr2_1_11 (Or.inl ⟨by kernel_rfl, ?hyr2_1_11⟩) (by assumption) ?restr2_1_11
          case hqr2_1_11 => exact fun _ _ _ h => h
          case hyr2_1_11 => (intro w hSw; (try dsimp only at hSw); go_simp; try with_reducible rfl)
          try simp only [Act.put, List.getElem_toArray, List.getElem_cons_succ, List.getElem_cons_zero, List.setIfInBounds_toArray, List.set_cons_zero, List.set_cons_succ]
          refine wpAnyH_take (i := 12) (oi := _) (v := ?vr2_1_12) rfl (by kernel_rfl) (by kernel_rfl) (by kernel_rfl) ?hqr2_1_12 (Or.inl ⟨by kernel_rfl, ?hyr2_1_12⟩) (by assumption) ?restr2_1_12
          case hqr2_1_12 => exact fun _ _ _ h => h
          case hyr2_1_12 => (intro w hSw; (try dsimp only at hSw); go_simp; try with_reducible rfl)
          try simp only [Act.put, List.getElem_toArray, List.getElem_cons_succ, List.getElem_cons_zero, List.setIfInBounds_toArray, List.set_cons_zero, List.set_cons_succ]
          refine wpAnyH_take (i := 13) (oi := _) (v := ?vr2_1_13) rfl (by kernel_rfl) (by kernel_rfl) (by kernel_rfl) ?hqr2_1_13 (Or.inl ⟨by kernel_rfl, ?hyr2_1_13⟩) (by assumption) ?restr2_1_13
          case hqr2_1_13 => exact fun _ _ _ h => h
          case hyr2_1_13 => (intro w hSw; (try dsimp only at hSw); go_simp; try with_reducible rfl)
          try simp only [Act.put, List.getElem_toArray, List.getElem_cons_succ, List.getElem_cons_zero, List.setIfInBounds_toArray, List.set_cons_zero, List.set_cons_succ]
          refine wpAnyH_ready (rs := [14]) (by kernel_rfl) (by simp) ?_
          refine AllReadyH.cons (o := _) rfl (fun K hK => ?_) AllReadyH.nil
          go_simp
          (go_at_call 58; refine (HLE.out _).mono ?_; rintro e w7 ⟨rfl, hb7⟩)
          try (go_wp2_with fail)
          refine hK.out _ _ ?_ (fun hHr2_2 => ?_)
          · (try dsimp only); (first | assumption | exact hS _ (Bel.refl w5).drew | exact hS _ hB6 | exact hS _ (hB6.then_ hb7))
          clear hK K hHr2_1
          try simp only [Act.put, List.getElem_toArray, List.getElem_cons_succ, List.getElem_cons_zero, List.setIfInBounds_toArray, List.set_cons_zero, List.set_cons_succ]
          refine wpAnyH_take (i := 15) (oi := _) (v := ?vr2_1_15) rfl (by kernel_rfl) (by kernel_rfl) (by kernel_rfl) ?hqr2_1_15 (Or.inl ⟨by kernel_rfl, ?hyr2_1_15⟩) (by assumption) ?restr2_1_15
          case hqr2_1_15 => exact fun _ _ _ h => h
          case hyr2_1_15 => (intro w hSw; (try dsimp only at hSw); go_simp; try with_reducible rfl)
          try simp only [Act.put, List.getElem_toArray, List.getElem_cons_succ, List.getElem_cons_zero, List.setIfInBounds_toArray, List.set_cons_zero, List.set_cons_succ]
          refine wpAnyH_take (i := 16) (oi := _) (v := ?vr2_1_16) rfl (by kernel_rfl) (by kernel_rfl) (by kernel_rfl) ?hqr2_1_16 (Or.inl ⟨by kernel_rfl, ?hyr2_1_16⟩) (by assumption) ?restr2_1_16
          case hqr2_1_16 => exact fun _ _ _ h => h
          case hyr2_1_16 => (intro w hSw; (try dsimp only at hSw); go_simp; try with_reducible rfl)
          try simp only [Act.put, List.getElem_toArray, List.getElem_cons_succ, List.getElem_cons_zero, List.setIfInBounds_toArray, List.set_cons_zero, List.set_cons_succ]
          refine wpAnyH_take (i := 17) (oi := _) (v := ?vr2_1_17) rfl (by kernel_rfl) (by kernel_rfl) (by kernel_rfl) ?hqr2_1_17 (Or.inl ⟨by kernel_rfl, ?hyr2_1_17⟩) (by assumption) ?restr2_1_17
          case hqr2_1_17 => exact fun _ _ _ h => h
          case hyr2_1_17 => (intro w hSw; (try dsimp only at hSw); go_simp; try with_reducible rfl)
          try simp only [Act.put, List.getElem_toArray, List.getElem_cons_succ, List.getElem_cons_zero, List.setIfInBounds_toArray, List.set_cons_zero, List.set_cons_succ]
          refine wpAnyH_take (i := 18) (oi := _) (v := ?vr2_1_18) rfl (by kernel_rfl) (by kernel_rfl) (by kernel_rfl) ?hqr2_1_18 (Or.inl ⟨by kernel_rfl, ?hyr2_1_18⟩) (by assumption) ?restr2_1_18
          case hqr2_1_18 => exact fun _ _ _ h => h
          case hyr2_1_18 => (intro w hSw; (try dsimp only at hSw); go_simp; try with_reducible rfl)
          try simp only [Act.put, List.getElem_toArray, List.getElem_cons_succ, List.getElem_cons_zero, List.setIfInBounds_toArray, List.set_cons_zero, List.set_cons_succ]
          refine wpAnyH_take (i := 19) (oi := _) (v := ?vr2_1_19) rfl (by kernel_rfl) (by kernel_rfl) (by kernel_rfl) ?hqr2_1_19 (Or.inl ⟨by kernel_rfl, ?hyr2_1_19⟩) (by assumption) ?restr2_1_19
          case hqr2_1_19 => exact fun _ _ _ h => h
          case hyr2_1_19 => (intro w hSw; (try dsimp only at hSw); go_simp; try with_reducible rfl)
          try simp only [Act.put, List.getElem_toArray, List.getElem_cons_succ, List.getElem_cons_zero, List.setIfInBounds_toArray, List.set_cons_zero, List.set_cons_succ]
          refine wpAnyH_take (i := 20) (oi := _) (v := ?vr2_1_20) rfl (by kernel_rfl) (by kernel_rfl) (by kernel_rfl) ?hqr2_1_20 (Or.inl ⟨by kernel_rfl, ?hyr2_1_20⟩) (by assumption) ?restr2_1_20
          case hqr2_1_20 => exact fun _ _ _ h => h
          case hyr2_1_20 => (intro w hSw; (try dsimp only at hSw); go_simp; try with_reducible rfl)
          try simp only [Act.put, List.getElem_toArray, List.getElem_cons_succ, List.getElem_cons_zero, List.setIfInBounds_toArray, List.set_cons_zero, List.set_cons_succ]
          refine wpAnyH_done (by kernel_rfl) ?_ _
          refine NoPanic.normal ?_
          go_wp2
          go_ret
          exact ⟨by rw [hR2]; rfl, hB5.then_ (by assumption : _ ∧ _ ∧ _ ∧ Bel w5 _).2.2.2⟩
        · have hub : decide (127 < n) = false := by simp; omega
          have hR2 : R = 0 := by rw [HR1.out, if_pos (by omega)]
          refine wp_region_noPanic ?_
          refine wp_region_held_drew (S := (fun V : World => V.cell? ⟨w.heap.size, 2, none⟩ = some (.int .i64 1) ∧ V.cell? ⟨w.heap.size + 1, 1, none⟩ = some (.int .i64 n) ∧ V.cell? ⟨w.heap.size + 1, 2, none⟩ = some (.int .u64 u) ∧ Bel w5 V)) (by kernel_rfl) ?_ (fun hHr3_0 => ?_)
          · (try dsimp only); (first | assumption | exact hS _ (Bel.refl w5).drew | exact hS _ hB6 | exact hS _ (hB6.then_ hb7))
          refine wpAnyH_take (i := 0) (oi := _) (v := ?vr3_1_0) rfl (by kernel_rfl) (by kernel_rfl) (by kernel_rfl) ?hqr3_1_0 (Or.inl ⟨by kernel_rfl, ?hyr3_1_0⟩) (by assumption) ?restr3_1_0
          case hqr3_1_0 => exact fun _ _ _ h => h
          case hyr3_1_0 => (intro w hSw; (try dsimp only at hSw); go_simp; try with_reducible rfl)
          try simp only [Act.put, List.getElem_toArray, List.getElem_cons_succ, List.getElem_cons_zero, List.setIfInBounds_toArray, List.set_cons_zero, List.set_cons_succ]
          refine wpAnyH_take (i := 1) (oi := _) (v := ?vr3_1_1) rfl (by kernel_rfl) (by kernel_rfl) (by kernel_rfl) ?hqr3_1_1 (Or.inl ⟨by kernel_rfl, ?hyr3_1_1⟩) (by assumption) ?restr3_1_1
          case hqr3_1_1 => exact fun _ _ _ h => h
          case hyr3_1_1 => (intro w hSw; (try dsimp only at hSw); go_simp; try with_reducible rfl)
          try simp only [Act.put, List.getElem_toArray, List.getElem_cons_succ, List.getElem_cons_zero, List.setIfInBounds_toArray, List.set_cons_zero, List.set_cons_succ]
          refine wpAnyH_take (i := 2) (oi := _) (v := ?vr3_1_2) rfl (by kernel_rfl) (by kernel_rfl) (by kernel_rfl) ?hqr3_1_2 (Or.inl ⟨by kernel_rfl, ?hyr3_1_2⟩) (by assumption) ?restr3_1_2
          case hqr3_1_2 => exact fun _ _ _ h => h
          case hyr3_1_2 => (intro w hSw; (try dsimp only at hSw); go_simp; try with_reducible rfl)
          try simp only [Act.put, List.getElem_toArray, List.getElem_cons_succ, List.getElem_cons_zero, List.setIfInBounds_toArray, List.set_cons_zero, List.set_cons_succ]
          refine wpAnyH_take (i := 3) (oi := _) (v := ?vr3_1_3) rfl (by kernel_rfl) (by kernel_rfl) (by kernel_rfl) ?hqr3_1_3 (Or.inl ⟨by kernel_rfl, ?hyr3_1_3⟩) (by assumption) ?restr3_1_3
          case hqr3_1_3 => exact fun _ _ _ h => h
          case hyr3_1_3 => (intro w hSw; (try dsimp only at hSw); go_simp; try with_reducible rfl)
          try simp only [Act.put, List.getElem_toArray, List.getElem_cons_succ, List.getElem_cons_zero, List.setIfInBounds_toArray, List.set_cons_zero, List.set_cons_succ]
          refine wpAnyH_take (i := 4) (oi := _) (v := ?vr3_1_4) rfl (by kernel_rfl) (by kernel_rfl) (by kernel_rfl) ?hqr3_1_4 (Or.inl ⟨by kernel_rfl, ?hyr3_1_4⟩) (by assumption) ?restr3_1_4
          case hqr3_1_4 => exact fun _ _ _ h => h
          case hyr3_1_4 => (intro w hSw; (try dsimp only at hSw); go_simp; try with_reducible rfl)
          try simp only [Act.put, List.getElem_toArray, List.getElem_cons_succ, List.getElem_cons_zero, List.setIfInBounds_toArray, List.set_cons_zero, List.set_cons_succ]
          refine wpAnyH_take (i := 5) (oi := _) (v := ?vr3_1_5) rfl (by kernel_rfl) (by kernel_rfl) (by kernel_rfl) ?hqr3_1_5 (Or.inl ⟨by kernel_rfl, ?hyr3_1_5⟩) (by assumption) ?restr3_1_5
          case hqr3_1_5 => exact fun _ _ _ h => h
          case hyr3_1_5 => (intro w hSw; (try dsimp only at hSw); go_simp; try with_reducible rfl)
          try simp only [Act.put, List.getElem_toArray, List.getElem_cons_succ, List.getElem_cons_zero, List.setIfInBounds_toArray, List.set_cons_zero, List.set_cons_succ]
          refine wpAnyH_take (i := 6) (oi := _) (v := ?vr3_1_6) rfl (by kernel_rfl) (by kernel_rfl) (by kernel_rfl) ?hqr3_1_6 (Or.inl ⟨by kernel_rfl, ?hyr3_1_6⟩) (by assumption) ?restr3_1_6
          case hqr3_1_6 => exact fun _ _ _ h => h
          case hyr3_1_6 => (intro w hSw; (try dsimp only at hSw); go_simp; try with_reducible rfl)
          try simp only [Act.put, List.getElem_toArray, List.getElem_cons_succ, List.getElem_cons_zero, List.setIfInBounds_toArray, List.set_cons_zero, List.set_cons_succ]
          refine wpAnyH_ready (rs := [7]) (by kernel_rfl) (by simp) ?_
          refine AllReadyH.cons (o := _) rfl (fun K hK => ?_) AllReadyH.nil
          go_simp
          (go_at_call 58; refine (HLE.out _).mono ?_; rintro e w6 ⟨rfl, hb6⟩; have hB6 : Bel w5 w6 := Bel.then_ (Bel.refl w5).drew hb6)
          try (go_wp2_with fail)
          refine hK.out _ _ ?_ (fun hHr3_1 => ?_)
          · (try dsimp only); (first | assumption | exact hS _ (Bel.refl w5).drew | exact hS _ hB6 | exact hS _ (hB6.then_ hb7))
          clear hK K hHr3_0
          try simp only [Act.put, List.getElem_toArray, List.getElem_cons_succ, List.getElem_cons_zero, List.setIfInBounds_toArray, List.set_cons_zero, List.set_cons_succ]
          refine wpAnyH_take (i := 8) (oi := _) (v := ?vr3_1_8) rfl (by kernel_rfl) (by kernel_rfl) (by kernel_rfl) ?hqr3_1_8 (Or.inl ⟨by kernel_rfl, ?hyr3_1_8⟩) (by assumption) ?restr3_1_8
          case hqr3_1_8 => exact fun _ _ _ h => h
          case hyr3_1_8 => (intro w hSw; (try dsimp only at hSw); go_simp; try with_reducible rfl)
          try simp only [Act.put, List.getElem_toArray, List.getElem_cons_succ, List.getElem_cons_zero, List.setIfInBounds_toArray, List.set_cons_zero, List.set_cons_succ]
          refine wpAnyH_take (i := 9) (oi := _) (v := ?vr3_1_9) rfl (by kernel_rfl) (by kernel_rfl) (by kernel_rfl) ?hqr3_1_9 (Or.inl ⟨by kernel_rfl, ?hyr3_1_9⟩) (by assumption) ?restr3_1_9
          case hqr3_1_9 => exact fun _ _ _ h => h
          case hyr3_1_9 => (intro w hSw; (try dsimp only at hSw); go_simp; try with_reducible rfl)
          try simp only [Act.put, List.getElem_toArray, List.getElem_cons_succ, List.getElem_cons_zero, List.setIfInBounds_toArray, List.set_cons_zero, List.set_cons_succ]
          refine wpAnyH_take (i := 10) (oi := _) (v := ?vr3_1_10) rfl (by kernel_rfl) (by kernel_rfl) (by kernel_rfl) ?hqr3_1_10 (Or.inl ⟨by kernel_rfl, ?hyr3_1_10⟩) (by assumption) ?restr3_1_10
          case hqr3_1_10 => exact fun _ _ _ h => h
          case hyr3_1_10 => (intro w hSw; (try dsimp only at hSw); go_simp; try with_reducible rfl)
          try simp only [Act.put, List.getElem_toArray, List.getElem_cons_succ, List.getElem_cons_zero, List.setIfInBounds_toArray, List.set_cons_zero, List.set_cons_succ]
          refine wpAnyH_take (i := 11) (oi := _) (v := ?vr3_1_11) rfl (by kernel_rfl) (by kernel_rfl) (by kernel_rfl) ?hqr3_1_11 (Or.inl ⟨by kernel_rfl, ?hyr3_1_11⟩) (by assumption) ?restr3_1_11
          case hqr3_1_11 => exact fun _ _ _ h => h
          case hyr3_1_11 => (intro w hSw; (try dsimp only at hSw); go_simp; try with_reducible rfl)
          try simp only [Act.put, List.getElem_toArray, List.getElem_cons_succ, List.getElem_cons_zero, List.setIfInBounds_toArray, List.set_cons_zero, List.set_cons_succ]
          refine wpAnyH_take (i := 12) (oi := _) (v := ?vr3_1_12) rfl (by kernel_rfl) (by kernel_rfl) (by kernel_rfl) ?hqr3_1_12 (Or.inl ⟨by kernel_rfl, ?hyr3_1_12⟩) (by assumption) ?restr3_1_12
          case hqr3_1_12 => exact fun _ _ _ h => h
          case hyr3_1_12 => (intro w hSw; (try dsimp only at hSw); go_simp; try with_reducible rfl)
          try simp only [Act.put, List.getElem_toArray, List.getElem_cons_succ, List.getElem_cons_zero, List.setIfInBounds_toArray, List.set_cons_zero, List.set_cons_succ]
          refine wpAnyH_take (i := 13) (oi := _) (v := ?vr3_1_13) rfl (by kernel_rfl) (by kernel_rfl) (by kernel_rfl) ?hqr3_1_13 (Or.inl ⟨by kernel_rfl, ?hyr3_1_13⟩) (by assumption) ?restr3_1_13
          case hqr3_1_13 => exact fun _ _ _ h => h
          case hyr3_1_13 => (intro w hSw; (try dsimp only at hSw); go_simp; try with_reducible rfl)
          try simp only [Act.put, List.getElem_toArray, List.getElem_cons_succ, List.getElem_cons_zero, List.setIfInBounds_toArray, List.set_cons_zero, List.set_cons_succ]
          refine wpAnyH_ready (rs := [14]) (by kernel_rfl) (by simp) ?_
          refine AllReadyH.cons (o := _) rfl (fun K hK => ?_) AllReadyH.nil
          go_simp
          (go_at_call 58; refine (HLE.out _).mono ?_; rintro e w7 ⟨rfl, hb7⟩)
          try (go_wp2_with fail)
          refine hK.out _ _ ?_ (fun hHr3_2 => ?_)
          · (try dsimp only); (first | assumption | exact hS _ (Bel.refl w5).drew | exact hS _ hB6 | exact hS _ (hB6.then_ hb7))
          clear hK K hHr3_1
          try simp only [Act.put, List.getElem_toArray, List.getElem_cons_succ, List.getElem_cons_zero, List.setIfInBounds_toArray, List.set_cons_zero, List.set_cons_succ]
          refine wpAnyH_take (i := 15) (oi := _) (v := ?vr3_1_15) rfl (by kernel_rfl) (by kernel_rfl) (by kernel_rfl) ?hqr3_1_15 (Or.inl ⟨by kernel_rfl, ?hyr3_1_15⟩) (by assumption) ?restr3_1_15
          case hqr3_1_15 => exact fun _ _ _ h => h
          case hyr3_1_15 => (intro w hSw; (try dsimp only at hSw); go_simp; try with_reducible rfl)
          try simp only [Act.put, List.getElem_toArray, List.getElem_cons_succ, List.getElem_cons_zero, List.setIfInBounds_toArray, List.set_cons_zero, List.set_cons_succ]
          refine wpAnyH_take (i := 16) (oi := _) (v := ?vr3_1_16) rfl (by kernel_rfl) (by kernel_rfl) (by kernel_rfl) ?hqr3_1_16 (Or.inl ⟨by kernel_rfl, ?hyr3_1_16⟩) (by assumption) ?restr3_1_16
          case hqr3_1_16 => exact fun _ _ _ h => h
          case hyr3_1_16 => (intro w hSw; (try dsimp only at hSw); go_simp; try with_reducible rfl)
          try simp only [Act.put, List.getElem_toArray, List.getElem_cons_succ, List.getElem_cons_zero, List.setIfInBounds_toArray, List.set_cons_zero, List.set_cons_succ]
          refine wpAnyH_take (i := 17) (oi := _) (v := ?vr3_1_17) rfl (by kernel_rfl) (by kernel_rfl) (by kernel_rfl) ?hqr3_1_17 (Or.inl ⟨by kernel_rfl, ?hyr3_1_17⟩) (by assumption) ?restr3_1_17
          case hqr3_1_17 => exact fun _ _ _ h => h
          case hyr3_1_17 => (intro w hSw; (try dsimp only at hSw); go_simp; try with_reducible rfl)
          try simp only [Act.put, List.getElem_toArray, List.getElem_cons_succ, List.getElem_cons_zero, List.setIfInBounds_toArray, List.set_cons_zero, List.set_cons_succ]
          refine wpAnyH_take (i := 18) (oi := _) (v := ?vr3_1_18) rfl (by kernel_rfl) (by kernel_rfl) (by kernel_rfl) ?hqr3_1_18 (Or.inl ⟨by kernel_rfl, ?hyr3_1_18⟩) (by assumption) ?restr3_1_18
          case hqr3_1_18 => exact fun _ _ _ h => h
          case hyr3_1_18 => (intro w hSw; (try dsimp only at hSw); go_simp; try with_reducible rfl)
          try simp only [Act.put, List.getElem_toArray, List.getElem_cons_succ, List.getElem_cons_zero, List.setIfInBounds_toArray, List.set_cons_zero, List.set_cons_succ]
          refine wpAnyH_take (i := 19) (oi := _) (v := ?vr3_1_19) rfl (by kernel_rfl) (by kernel_rfl) (by kernel_rfl) ?hqr3_1_19 (Or.inl ⟨by kernel_rfl, ?hyr3_1_19⟩) (by assumption) ?restr3_1_19
          case hqr3_1_19 => exact fun _ _ _ h => h
          case hyr3_1_19 => (intro w hSw; (try dsimp only at hSw); go_simp; try with_reducible rfl)
          try simp only [Act.put, List.getElem_toArray, List.getElem_cons_succ, List.getElem_cons_zero, List.setIfInBounds_toArray, List.set_cons_zero, List.set_cons_succ]
          refine wpAnyH_take (i := 20) (oi := _) (v := ?vr3_1_20) rfl (by kernel_rfl) (by kernel_rfl) (by kernel_rfl) ?hqr3_1_20 (Or.inl ⟨by kernel_rfl, ?hyr3_1_20⟩) (by assumption) ?restr3_1_20
          case hqr3_1_20 => exact fun _ _ _ h => h
          case hyr3_1_20 => (intro w hSw; (try dsimp only at hSw); go_simp; try with_reducible rfl)
          try simp only [Act.put, List.getElem_toArray, List.getElem_cons_succ, List.getElem_cons_zero, List.setIfInBounds_toArray, List.set_cons_zero, List.set_cons_succ]
          refine wpAnyH_done (by kernel_rfl) ?_ _
          refine NoPanic.normal ?_
          have hB7 := (by assumption : _ ∧ _ ∧ _ ∧ Bel w5 _).2.2.2
          go_wp2
          refine wp_region_noPanic ?_
          refine wp_region_held_drew (S := (fun V : World => Bel w5 V)) (by kernel_rfl) ?_ (fun hHr4_0 => ?_)
          · (try dsimp only); (first | assumption | exact hB7.drew)
          refine wpAnyH_take (i := 0) (oi := _) (v := ?vr4_1_0) rfl (by kernel_rfl) (by kernel_rfl) (by kernel_rfl) ?hqr4_1_0 (Or.inl ⟨by kernel_rfl, ?hyr4_1_0⟩) (by assumption) ?restr4_1_0
          case hqr4_1_0 => exact fun _ _ _ h => h
          case hyr4_1_0 => (intro w hSw; (try dsimp only at hSw); go_simp; try with_reducible rfl)
          try simp only [Act.put, List.getElem_toArray, List.getElem_cons_succ, List.getElem_cons_zero, List.setIfInBounds_toArray, List.set_cons_zero, List.set_cons_succ]
          refine wpAnyH_take (i := 1) (oi := _) (v := ?vr4_1_1) rfl (by kernel_rfl) (by kernel_rfl) (by kernel_rfl) ?hqr4_1_1 (Or.inl ⟨by kernel_rfl, ?hyr4_1_1⟩) (by assumption) ?restr4_1_1
          case hqr4_1_1 => exact fun _ _ _ h => h
          case hyr4_1_1 => (intro w hSw; (try dsimp only at hSw); go_simp; try with_reducible rfl)
          try simp only [Act.put, List.getElem_toArray, List.getElem_cons_succ, List.getElem_cons_zero, List.setIfInBounds_toArray, List.set_cons_zero, List.set_cons_succ]
          refine wpAnyH_take (i := 2) (oi := _) (v := ?vr4_1_2) rfl (by kernel_rfl) (by kernel_rfl) (by kernel_rfl) ?hqr4_1_2 (Or.inl ⟨by kernel_rfl, ?hyr4_1_2⟩) (by assumption) ?restr4_1_2
          case hqr4_1_2 => exact fun _ _ _ h => h
          case hyr4_1_2 => (intro w hSw; (try dsimp only at hSw); go_simp; try with_reducible rfl)
          try simp only [Act.put, List.getElem_toArray, List.getElem_cons_succ, List.getElem_cons_zero, List.setIfInBounds_toArray, List.set_cons_zero, List.set_cons_succ]
          refine wpAnyH_take (i := 3) (oi := _) (v := undef) rfl (by kernel_rfl) (by kernel_rfl) (by kernel_rfl) (fun _ _ _ h => h) (Or.inr ⟨by kernel_rfl, rfl⟩) (by assumption) ?restr4_1_3
          try simp only [Act.put, List.getElem_toArray, List.getElem_cons_succ, List.getElem_cons_zero, List.setIfInBounds_toArray, List.set_cons_zero, List.set_cons_succ]
          refine wpAnyH_take (i := 4) (oi := _) (v := undef) rfl (by kernel_rfl) (by kernel_rfl) (by kernel_rfl) (fun _ _ _ h => h) (Or.inr ⟨by kernel_rfl, rfl⟩) (by assumption) ?restr4_1_4
          try simp only [Act.put, List.getElem_toArray, List.getElem_cons_succ, List.getElem_cons_zero, List.setIfInBounds_toArray, List.set_cons_zero, List.set_cons_succ]
          refine wpAnyH_take (i := 5) (oi := _) (v := undef) rfl (by kernel_rfl) (by kernel_rfl) (by kernel_rfl) (fun _ _ _ h => h) (Or.inr ⟨by kernel_rfl, rfl⟩) (by assumption) ?restr4_1_5
          try simp only [Act.put, List.getElem_toArray, List.getElem_cons_succ, List.getElem_cons_zero, List.setIfInBounds_toArray, List.set_cons_zero, List.set_cons_succ]
          refine wpAnyH_take (i := 6) (oi := _) (v := undef) rfl (by kernel_rfl) (by kernel_rfl) (by kernel_rfl) (fun _ _ _ h => h) (Or.inr ⟨by kernel_rfl, rfl⟩) (by assumption) ?restr4_1_6
          try simp only [Act.put, List.getElem_toArray, List.getElem_cons_succ, List.getElem_cons_zero, List.setIfInBounds_toArray, List.set_cons_zero, List.set_cons_succ]
          refine wpAnyH_take (i := 7) (oi := _) (v := undef) rfl (by kernel_rfl) (by kernel_rfl) (by kernel_rfl) (fun _ _ _ h => h) (Or.inr ⟨by kernel_rfl, rfl⟩) (by assumption) ?restr4_1_7
          try simp only [Act.put, List.getElem_toArray, List.getElem_cons_succ, List.getElem_cons_zero, List.setIfInBounds_toArray, List.set_cons_zero, List.set_cons_succ]
          refine wpAnyH_take (i := 8) (oi := _) (v := undef) rfl (by kernel_rfl) (by kernel_rfl) (by kernel_rfl) (fun _ _ _ h => h) (Or.inr ⟨by kernel_rfl, rfl⟩) (by assumption) ?restr4_1_8
          try simp only [Act.put, List.getElem_toArray, List.getElem_cons_succ, List.getElem_cons_zero, List.setIfInBounds_toArray, List.set_cons_zero, List.set_cons_succ]
          refine wpAnyH_take (i := 9) (oi := _) (v := ?vr4_1_9) rfl (by kernel_rfl) (by kernel_rfl) (by kernel_rfl) ?hqr4_1_9 (Or.inl ⟨by kernel_rfl, ?hyr4_1_9⟩) (by assumption) ?restr4_1_9
          case hqr4_1_9 => exact fun _ _ _ h => h
          case hyr4_1_9 => (intro w hSw; (try dsimp only at hSw); go_simp; try with_reducible rfl)
          try simp only [Act.put, List.getElem_toArray, List.getElem_cons_succ, List.getElem_cons_zero, List.setIfInBounds_toArray, List.set_cons_zero, List.set_cons_succ]
          refine wpAnyH_take (i := 10) (oi := _) (v := ?vr4_1_10) rfl (by kernel_rfl) (by kernel_rfl) (by kernel_rfl) ?hqr4_1_10 (Or.inl ⟨by kernel_rfl, ?hyr4_1_10⟩) (by assumption) ?restr4_1_10
          case hqr4_1_10 => exact fun _ _ _ h => h
          case hyr4_1_10 => (intro w hSw; (try dsimp only at hSw); go_simp; try with_reducible rfl)
          try simp only [Act.put, List.getElem_toArray, List.getElem_cons_succ, List.getElem_cons_zero, List.setIfInBounds_toArray, List.set_cons_zero, List.set_cons_succ]
          refine wpAnyH_done (by kernel_rfl) ?_ _
          refine NoPanic.normal ?_
          go_wp2
          go_ret
          exact ⟨by rw [hR2]; rfl, hB5.then_ hB7.drew⟩
    · simp only [leastI] at HLE HR1
      have v1 : IntKind.i64.wrap (-32767) = -32767 := by decide
      have v2 : IntKind.i64.wrap 32767 = 32767 := by decide
      have v3 : IntKind.i64.wrap (-32768 + 1) = -32767 := by decide
      have v4 : IntKind.i64.wrap (-(-32767)) = 32767 := by decide
      go_enter Tryz.func24, Tryz.ntmps24
      go_wp2_with (first | (go_at_call 56; refine (HCO.out _).mono ?_; rintro e w4 ⟨rfl, hb4⟩; obtain ⟨⟨a0, a1, a2, a3, c0, c1, c2, c3⟩, hB4⟩ := HCL.out _ hb4) | (go_at_call 57; refine (HCH.out _).mono ?_; rintro e w5 ⟨rfl, hb5⟩; obtain ⟨⟨d0, d1, d2, d3, e0, e1, e2, e3⟩, hB5⟩ := HCL.out _ (hb4.then_ hb5)))
      have hS : ∀ V, Bel w5 V → (V.cell? ⟨w.heap.size, 2, none⟩ = some (.int .i64 2) ∧ V.cell? ⟨w.heap.size + 1, 1, none⟩ = some (.int .i64 n) ∧ V.cell? ⟨w.heap.size + 1, 2, none⟩ = some (.int .u64 u) ∧ Bel w5 V) := fun V h => ⟨h.c d2, h.c e1, h.c e2, h⟩
      by_cases hl : n < -32768
      · have hR2 : R = 133 := by rw [HR1.out, if_neg (by omega)]
        refine wp_region_noPanic ?_
        refine wp_region_held_drew (S := (fun V : World => V.cell? ⟨w.heap.size, 2, none⟩ = some (.int .i64 2) ∧ V.cell? ⟨w.heap.size + 1, 1, none⟩ = some (.int .i64 n) ∧ V.cell? ⟨w.heap.size + 1, 2, none⟩ = some (.int .u64 u) ∧ Bel w5 V)) (by kernel_rfl) ?_ (fun hHr5_0 => ?_)
        · (try dsimp only); (first | assumption | exact hS _ (Bel.refl w5).drew | exact hS _ hB6 | exact hS _ (hB6.then_ hb7))
        refine wpAnyH_take (i := 0) (oi := _) (v := ?vr5_1_0) rfl (by kernel_rfl) (by kernel_rfl) (by kernel_rfl) ?hqr5_1_0 (Or.inl ⟨by kernel_rfl, ?hyr5_1_0⟩) (by assumption) ?restr5_1_0
        case hqr5_1_0 => exact fun _ _ _ h => h
        case hyr5_1_0 => (intro w hSw; (try dsimp only at hSw); go_simp; try with_reducible rfl)
        try simp only [Act.put, List.getElem_toArray, List.getElem_cons_succ, List.getElem_cons_zero, List.setIfInBounds_toArray, List.set_cons_zero, List.set_cons_succ]
        refine wpAnyH_take (i := 1) (oi := _) (v := ?vr5_1_1) rfl (by kernel_rfl) (by kernel_rfl) (by kernel_rfl) ?hqr5_1_1 (Or.inl ⟨by kernel_rfl, ?hyr5_1_1⟩) (by assumption) ?restr5_1_1
        case hqr5_1_1 => exact fun _ _ _ h => h
        case hyr5_1_1 => (intro w hSw; (try dsimp only at hSw); go_simp; try with_reducible rfl)
        try simp only [Act.put, List.getElem_toArray, List.getElem_cons_succ, List.getElem_cons_zero, List.setIfInBounds_toArray, List.set_cons_zero, List.set_cons_succ]
        refine wpAnyH_take (i := 2) (oi := _) (v := ?vr5_1_2) rfl (by kernel_rfl) (by kernel_rfl) (by kernel_rfl) ?hqr5_1_2 (Or.inl ⟨by kernel_rfl, ?hyr5_1_2⟩) (by assumption) ?restr5_1_2
        case hqr5_1_2 => exact fun _ _ _ h => h
        case hyr5_1_2 => (intro w hSw; (try dsimp only at hSw); go_simp; try with_reducible rfl)
        try simp only [Act.put, List.getElem_toArray, List.getElem_cons_succ, List.getElem_cons_zero, List.setIfInBounds_toArray, List.set_cons_zero, List.set_cons_succ]
        refine wpAnyH_take (i := 3) (oi := _) (v := ?vr5_1_3) rfl (by kernel_rfl) (by kernel_rfl) (by kernel_rfl) ?hqr5_1_3 (Or.inl ⟨by kernel_rfl, ?hyr5_1_3⟩) (by assumption) ?restr5_1_3
        case hqr5_1_3 => exact fun _ _ _ h => h
        case hyr5_1_3 => (intro w hSw; (try dsimp only at hSw); go_simp; try with_reducible rfl)
        try simp only [Act.put, List.getElem_toArray, List.getElem_cons_succ, List.getElem_cons_zero, List.setIfInBounds_toArray, List.set_cons_zero, List.set_cons_succ]
        refine wpAnyH_take (i := 4) (oi := _) (v := ?vr5_1_4) rfl (by kernel_rfl) (by kernel_rfl) (by kernel_rfl) ?hqr5_1_4 (Or.inl ⟨by kernel_rfl, ?hyr5_1_4⟩) (by assumption) ?restr5_1_4
        case hqr5_1_4 => exact fun _ _ _ h => h
        case hyr5_1_4 => (intro w hSw; (try dsimp only at hSw); go_simp; try with_reducible rfl)
        try simp only [Act.put, List.getElem_toArray, List.getElem_cons_succ, List.getElem_cons_zero, List.setIfInBounds_toArray, List.set_cons_zero, List.set_cons_succ]
        refine wpAnyH_take (i := 5) (oi := _) (v := ?vr5_1_5) rfl (by kernel_rfl) (by kernel_rfl) (by kernel_rfl) ?hqr5_1_5 (Or.inl ⟨by kernel_rfl, ?hyr5_1_5⟩) (by assumption) ?restr5_1_5
        case hqr5_1_5 => exact fun _ _ _ h => h
        case hyr5_1_5 => (intro w hSw; (try dsimp only at hSw); go_simp; try with_reducible rfl)
        try simp only [Act.put, List.getElem_toArray, List.getElem_cons_succ, List.getElem_cons_zero, List.setIfInBounds_toArray, List.set_cons_zero, List.set_cons_succ]
        refine wpAnyH_take (i := 6) (oi := _) (v := ?vr5_1_6) rfl (by kernel_rfl) (by kernel_rfl) (by kernel_rfl) ?hqr5_1_6 (Or.inl ⟨by kernel_rfl, ?hyr5_1_6⟩) (by assumption) ?restr5_1_6
        case hqr5_1_6 => exact fun _ _ _ h => h
        case hyr5_1_6 => (intro w hSw; (try dsimp only at hSw); go_simp; try with_reducible rfl)
        try simp only [Act.put, List.getElem_toArray, List.getElem_cons_succ, List.getElem_cons_zero, List.setIfInBounds_toArray, List.set_cons_zero, List.set_cons_succ]
        refine wpAnyH_ready (rs := [7]) (by kernel_rfl) (by simp) ?_
        refine AllReadyH.cons (o := _) rfl (fun K hK => ?_) AllReadyH.nil
        go_simp
        (go_at_call 58; refine (HLE.out _).mono ?_; rintro e w6 ⟨rfl, hb6⟩; have hB6 : Bel w5 w6 := Bel.then_ (Bel.refl w5).drew hb6)
        try (go_wp2_with fail)
        refine hK.out _ _ ?_ (fun hHr5_1 => ?_)
        · (try dsimp only); (first | assumption | exact hS _ (Bel.refl w5).drew | exact hS _ hB6 | exact hS _ (hB6.then_ hb7))
        clear hK K hHr5_0
        try simp only [Act.put, List.getElem_toArray, List.getElem_cons_succ, List.getElem_cons_zero, List.setIfInBounds_toArray, List.set_cons_zero, List.set_cons_succ]
        refine wpAnyH_take (i := 8) (oi := _) (v := ?vr5_1_8) rfl (by kernel_rfl) (by kernel_rfl) (by kernel_rfl) ?hqr5_1_8 (Or.inl ⟨by kernel_rfl, ?hyr5_1_8⟩) (by assumption) ?restr5_1_8
        case hqr5_1_8 => exact fun _ _ _ h => h
        case hyr5_1_8 => (intro w hSw; (try dsimp only at hSw); go_simp; try with_reducible rfl)
        try simp only [Act.put, List.getElem_toArray, List.getElem_cons_succ, List.getElem_cons_zero, List.setIfInBounds_toArray, List.set_cons_zero, List.set_cons_succ]
        refine wpAnyH_take (i := 9) (oi := _) (v := ?vr5_1_9) rfl (by kernel_rfl) (by kernel_rfl) (by kernel_rfl) ?hqr5_1_9 (Or.inl ⟨by kernel_rfl, ?hyr5_1_9⟩) (by assumption) ?restr5_1_9
        case hqr5_1_9 => exact fun _ _ _ h => h
        case hyr5_1_9 => (intro w hSw; (try dsimp only at hSw); go_simp; try with_reducible rfl)
        try simp only [Act.put, List.getElem_toArray, List.getElem_cons_succ, List.getElem_cons_zero, List.setIfInBounds_toArray, List.set_cons_zero, List.set_cons_succ]
        refine wpAnyH_take (i := 10) (oi := _) (v := undef) rfl (by kernel_rfl) (by kernel_rfl) (by kernel_rfl) (fun _ _ _ h => h) (Or.inr ⟨by kernel_rfl, rfl⟩) (by assumption) ?restr5_1_10
        try simp only [Act.put, List.getElem_toArray, List.getElem_cons_succ, List.getElem_cons_zero, List.setIfInBounds_toArray, List.set_cons_zero, List.set_cons_succ]
        refine wpAnyH_take (i := 11) (oi := _) (v := undef) rfl (by kernel_rfl) (by kernel_rfl) (by kernel_rfl) (fun _ _ _ h => h) (Or.inr ⟨by kernel_rfl, rfl⟩) (by assumption) ?restr5_1_11
        try simp only [Act.put, List.getElem_toArray, List.getElem_cons_succ, List.getElem_cons_zero, List.setIfInBounds_toArray, List.set_cons_zero, List.set_cons_succ]
        refine wpAnyH_take (i := 12) (oi := _) (v := undef) rfl (by kernel_rfl) (by kernel_rfl) (by kernel_rfl) (fun _ _ _ h => h) (Or.inr ⟨by kernel_rfl, rfl⟩) (by assumption) ?restr5_1_12
        try simp only [Act.put, List.getElem_toArray, List.getElem_cons_succ, List.getElem_cons_zero, List.setIfInBounds_toArray, List.set_cons_zero, List.set_cons_succ]
        refine wpAnyH_take (i := 13) (oi := _) (v := undef) rfl (by kernel_rfl) (by kernel_rfl) (by kernel_rfl) (fun _ _ _ h => h) (Or.inr ⟨by kernel_rfl, rfl⟩) (by assumption) ?restr5_1_13
        try simp only [Act.put, List.getElem_toArray, List.getElem_cons_succ, List.getElem_cons_zero, List.setIfInBounds_toArray, List.set_cons_zero, List.set_cons_succ]
        refine wpAnyH_take (i := 14) (oi := _) (v := undef) rfl (by kernel_rfl) (by kernel_rfl) (by kernel_rfl) (fun _ _ _ h => h) (Or.inr ⟨by kernel_rfl, rfl⟩) (by assumption) ?restr5_1_14
        try simp only [Act.put, List.getElem_toArray, List.getElem_cons_succ, List.getElem_cons_zero, List.setIfInBounds_toArray, List.set_cons_zero, List.set_cons_succ]
        refine wpAnyH_take (i := 15) (oi := _) (v := undef) rfl (by kernel_rfl) (by kernel_rfl) (by kernel_rfl) (fun _ _ _ h => h) (Or.inr ⟨by kernel_rfl, rfl⟩) (by assumption) ?restr5_1_15
        try simp only [Act.put, List.getElem_toArray, List.getElem_cons_succ, List.getElem_cons_zero, List.setIfInBounds_toArray, List.set_cons_zero, List.set_cons_succ]
        refine wpAnyH_take (i := 16) (oi := _) (v := undef) rfl (by kernel_rfl) (by kernel_rfl) (by kernel_rfl) (fun _ _ _ h => h) (Or.inr ⟨by kernel_rfl, rfl⟩) (by assumption) ?restr5_1_16
        try simp only [Act.put, List.getElem_toArray, List.getElem_cons_succ, List.getElem_cons_zero, List.setIfInBounds_toArray, List.set_cons_zero, List.set_cons_succ]
        refine wpAnyH_take (i := 17) (oi := _) (v := undef) rfl (by kernel_rfl) (by kernel_rfl) (by kernel_rfl) (fun _ _ _ h => h) (Or.inr ⟨by kernel_rfl, rfl⟩) (by assumption) ?restr5_1_17
        try simp only [Act.put, List.getElem_toArray, List.getElem_cons_succ, List.getElem_cons_zero, List.setIfInBounds_toArray, List.set_cons_zero, List.set_cons_succ]
        refine wpAnyH_take (i := 18) (oi := _) (v := ?vr5_1_18) rfl (by kernel_rfl) (by kernel_rfl) (by kernel_rfl) ?hqr5_1_18 (Or.inl ⟨by kernel_rfl, ?hyr5_1_18⟩) (by assumption) ?restr5_1_18
        case hqr5_1_18 => exact fun _ _ _ h => h
        case hyr5_1_18 => (intro w hSw; (try dsimp only at hSw); go_simp; try with_reducible rfl)
        try simp only [Act.put, List.getElem_toArray, List.getElem_cons_succ, List.getElem_cons_zero, List.setIfInBounds_toArray, List.set_cons_zero, List.set_cons_succ]
        refine wpAnyH_take (i := 19) (oi := _) (v := ?vr5_1_19) rfl (by kernel_rfl) (by kernel_rfl) (by kernel_rfl) ?hqr5_1_19 (Or.inl ⟨by kernel_rfl, ?hyr5_1_19⟩) (by assumption) ?restr5_1_19
        case hqr5_1_19 => exact fun _ _ _ h => h
        case hyr5_1_19 => (intro w hSw; (try dsimp only at hSw); go_simp; try with_reducible rfl)
        try simp only [Act.put, List.getElem_toArray, List.getElem_cons_succ, List.getElem_cons_zero, List.setIfInBounds_toArray, List.set_cons_zero, List.set_cons_succ]
        refine wpAnyH_take (i := 20) (oi := _) (v := ?vr5_1_20) rfl (by kernel_rfl) (by kernel_rfl) (by kernel_rfl) ?hqr5_1_20 (Or.inl ⟨by kernel_rfl, ?hyr5_1_20⟩) (by assumption) ?restr5_1_20
        case hqr5_1_20 => exact fun _ _ _ h => h
        case hyr5_1_20 => (intro w hSw; (try dsimp only at hSw); go_simp; try with_reducible rfl)
        try simp only [Act.put, List.getElem_toArray, List.getElem_cons_succ, List.getElem_cons_zero, List.setIfInBounds_toArray, List.set_cons_zero, List.set_cons_succ]
        refine wpAnyH_done (by kernel_rfl) ?_ _
        refine NoPanic.normal ?_
        go_wp2
        go_ret
        exact ⟨by rw [hR2]; rfl, hB5.then_ (by assumption : _ ∧ _ ∧ _ ∧ Bel w5 _).2.2.2⟩
      · have hlb : decide (n < -32768) = false := by simp; omega
        by_cases hu : 32767 < n
        · have hR2 : R = 133 := by rw [HR1.out, if_neg (by omega)]
          refine wp_region_noPanic ?_
          refine wp_region_held_drew (S := (fun V : World => V.cell? ⟨w.heap.size, 2, none⟩ = some (.int .i64 2) ∧ V.cell? ⟨w.heap.size + 1, 1, none⟩ = some (.int .i64 n) ∧ V.cell? ⟨w.heap.size + 1, 2, none⟩ = some (.int .u64 u) ∧ Bel w5 V)) (by kernel_rfl) ?_ (fun hHr6_0 => ?_)
          · (try dsimp only); (first | assumption | exact hS _ (Bel.refl w5).drew | exact hS _ hB6 | exact hS _ (hB6.then_ hb7))
          refine wpAnyH_take (i := 0) (oi := _) (v := ?vr6_1_0) rfl (by kernel_rfl) (by kernel_rfl) (by kernel_rfl) ?hqr6_1_0 (Or.inl ⟨by kernel_rfl, ?hyr6_1_0⟩) (by assumption) ?restr6_1_0
          case hqr6_1_0 => exact fun _ _ _ h => h
          case hyr6_1_0 => (intro w hSw; (try dsimp only at hSw); go_simp; try with_reducible rfl)
          try simp only [Act.put, List.getElem_toArray, List.getElem_cons_succ, List.getElem_cons_zero, List.setIfInBounds_toArray, List.set_cons_zero, List.set_cons_succ]
          refine wpAnyH_take (i := 1) (oi := _) (v := ?vr6_1_1) rfl (by kernel_rfl) (by kernel_rfl) (by kernel_rfl) ?hqr6_1_1 (Or.inl ⟨by kernel_rfl, ?hyr6_1_1⟩) (by assumption) ?restr6_1_1
          case hqr6_1_1 => exact fun _ _ _ h => h
          case hyr6_1_1 => (intro w hSw; (try dsimp only at hSw); go_simp; try with_reducible rfl)
          try simp only [Act.put, List.getElem_toArray, List.getElem_cons_succ, List.getElem_cons_zero, List.setIfInBounds_toArray, List.set_cons_zero, List.set_cons_succ]
          refine wpAnyH_take (i := 2) (oi := _) (v := ?vr6_1_2) rfl (by kernel_rfl) (by kernel_rfl) (by kernel_rfl) ?hqr6_1_2 (Or.inl ⟨by kernel_rfl, ?hyr6_1_2⟩) (by assumption) ?restr6_1_2
          case hqr6_1_2 => exact fun _ _ _ h => h
          case hyr6_1_2 => (intro w hSw; (try dsimp only at hSw); go_simp; try with_reducible rfl)
          try simp only [Act.put, List.getElem_toArray, List.getElem_cons_succ, List.getElem_cons_zero, List.setIfInBounds_toArray, List.set_cons_zero, List.set_cons_succ]
          refine wpAnyH_take (i := 3) (oi := _) (v := ?vr6_1_3) rfl (by kernel_rfl) (by kernel_rfl) (by kernel_rfl) ?hqr6_1_3 (Or.inl ⟨by kernel_rfl, ?hyr6_1_3⟩) (by assumption) ?restr6_1_3
          case hqr6_1_3 => exact fun _ _ _ h => h
          case hyr6_1_3 => (intro w hSw; (try dsimp only at hSw); go_simp; try with_reducible rfl)
          try simp only [Act.put, List.getElem_toArray, List.getElem_cons_succ, List.getElem_cons_zero, List.setIfInBounds_toArray, List.set_cons_zero, List.set_cons_succ]
          refine wpAnyH_take (i := 4) (oi := _) (v := ?vr6_1_4) rfl (by kernel_rfl) (by kernel_rfl) (by kernel_rfl) ?hqr6_1_4 (Or.inl ⟨by kernel_rfl, ?hyr6_1_4⟩) (by assumption) ?restr6_1_4
          case hqr6_1_4 => exact fun _ _ _ h => h
          case hyr6_1_4 => (intro w hSw; (try dsimp only at hSw); go_simp; try with_reducible rfl)
          try simp only [Act.put, List.getElem_toArray, List.getElem_cons_succ, List.getElem_cons_zero, List.setIfInBounds_toArray, List.set_cons_zero, List.set_cons_succ]
          refine wpAnyH_take (i := 5) (oi := _) (v := ?vr6_1_5) rfl (by kernel_rfl) (by kernel_rfl) (by kernel_rfl) ?hqr6_1_5 (Or.inl ⟨by kernel_rfl, ?hyr6_1_5⟩) (by assumption) ?restr6_1_5
          case hqr6_1_5 => exact fun _ _ _ h => h
          case hyr6_1_5 => (intro w hSw; (try dsimp only at hSw); go_simp; try with_reducible rfl)
          try simp only [Act.put, List.getElem_toArray, List.getElem_cons_succ, List.getElem_cons_zero, List.setIfInBounds_toArray, List.set_cons_zero, List.set_cons_succ]
          refine wpAnyH_take (i := 6) (oi := _) (v := ?vr6_1_6) rfl (by kernel_rfl) (by kernel_rfl) (by kernel_rfl) ?hqr6_1_6 (Or.inl ⟨by kernel_rfl, ?hyr6_1_6⟩) (by assumption) ?restr6_1_6
          case hqr6_1_6 => exact fun _ _ _ h => h
          case hyr6_1_6 => (intro w hSw; (try dsimp only at hSw); go_simp; try with_reducible rfl)
          try simp only [Act.put, List.getElem_toArray, List.getElem_cons_succ, List.getElem_cons_zero, List.setIfInBounds_toArray, List.set_cons_zero, List.set_cons_succ]
          refine wpAnyH_ready (rs := [7]) (by kernel_rfl) (by simp) ?_
          refine AllReadyH.cons (o := _) rfl (fun K hK => ?_) AllReadyH.nil
          go_simp
          (go_at_call 58; refine (HLE.out _).mono ?_; rintro e w6 ⟨rfl, hb6⟩; have hB6 : Bel w5 w6 := Bel.then_ (Bel.refl w5).drew hb6)
          try (go_wp2_with fail)
          refine hK.out _ _ ?_ (fun hHr6_1 => ?_)
          · (try dsimp only); (first | assumption | exact hS _ (Bel.refl w5).drew | exact hS _ hB6 | exact hS _ (hB6.then_ hb7))
          clear hK K hHr6_0
          try simp only [Act.put, List.getElem_toArray, List.getElem_cons_succ, List.getElem_cons_zero, List.setIfInBounds_toArray, List.set_cons_zero, List.set_cons_succ]
          refine wpAnyH_take (i := 8) (oi := _) (v := ?vr6_1_8) rfl (by kernel_rfl) (by kernel_rfl) (by kernel_rfl) ?hqr6_1_8 (Or.inl ⟨by kernel_rfl, ?hyr6_1_8⟩) (by assumption) ?restr6_1_8
          case hqr6_1_8 => exact fun _ _ _ h => h
          case hyr6_1_8 => (intro w hSw; (try dsimp only at hSw); go_simp; try with_reducible rfl)
          try simp only [Act.put, List.getElem_toArray, List.getElem_cons_succ, List.getElem_cons_zero, List.setIfInBounds_toArray, List.set_cons_zero, List.set_cons_succ]
          refine wpAnyH_take (i := 9) (oi := _) (v := ?vr6_1_9) rfl (by kernel_rfl) (by kernel_rfl) (by kernel_rfl) ?hqr6_1_9 (Or.inl ⟨by kernel_rfl, ?hyr6_1_9⟩) (by assumption) ?restr6_1_9
          case hqr6_1_9 => exact fun _ _ _ h => h
          case hyr6_1_9 => (intro w hSw; (try dsimp only at hSw); go_simp; try with_reducible rfl)
          try simp only [Act.put, List.getElem_toArray, List.getElem_cons_succ, List.getElem_cons_zero, List.setIfInBounds_toArray, List.set_cons_zero, List.set_cons_succ]
          refine wpAnyH_take (i := 10) (oi := _) (v := ?vr6_1_10) rfl (by kernel_rfl) (by kernel_rfl) (by kernel_rfl) ?hqr6_1_10 (Or.inl ⟨by kernel_rfl, ?hyr6_1_10⟩) (by assumption) ?restr6_1_10
          case hqr6_1_10 => exact fun _ _ _ h => h
          case hyr6_1_10 => (intro w hSw; (try dsimp only at hSw); go_simp; try with_reducible rfl)
          try simp only [Act.put, List.getElem_toArray, List.getElem_cons_succ, List.getElem_cons_zero, List.setIfInBounds_toArray, List.set_cons_zero, List.set_cons_succ]
          refine wpAnyH_take (i := 11) (oi := _) (v := ?vr6_1_11) rfl (by kernel_rfl) (by kernel_rfl) (by kernel_rfl) ?hqr6_1_11 (Or.inl ⟨by kernel_rfl, ?hyr6_1_11⟩) (by assumption) ?restr6_1_11
          case hqr6_1_11 => exact fun _ _ _ h => h
          case hyr6_1_11 => (intro w hSw; (try dsimp only at hSw); go_simp; try with_reducible rfl)
          try simp only [Act.put, List.getElem_toArray, List.getElem_cons_succ, List.getElem_cons_zero, List.setIfInBounds_toArray, List.set_cons_zero, List.set_cons_succ]
          refine wpAnyH_take (i := 12) (oi := _) (v := ?vr6_1_12) rfl (by kernel_rfl) (by kernel_rfl) (by kernel_rfl) ?hqr6_1_12 (Or.inl ⟨by kernel_rfl, ?hyr6_1_12⟩) (by assumption) ?restr6_1_12
          case hqr6_1_12 => exact fun _ _ _ h => h
          case hyr6_1_12 => (intro w hSw; (try dsimp only at hSw); go_simp; try with_reducible rfl)
          try simp only [Act.put, List.getElem_toArray, List.getElem_cons_succ, List.getElem_cons_zero, List.setIfInBounds_toArray, List.set_cons_zero, List.set_cons_succ]
          refine wpAnyH_take (i := 13) (oi := _) (v := ?vr6_1_13) rfl (by kernel_rfl) (by kernel_rfl) (by kernel_rfl) ?hqr6_1_13 (Or.inl ⟨by kernel_rfl, ?hyr6_1_13⟩) (by assumption) ?restr6_1_13
          case hqr6_1_13 => exact fun _ _ _ h => h
          case hyr6_1_13 => (intro w hSw; (try dsimp only at hSw); go_simp; try with_reducible rfl)
          try simp only [Act.put, List.getElem_toArray, List.getElem_cons_succ, List.getElem_cons_zero, List.setIfInBounds_toArray, List.set_cons_zero, List.set_cons_succ]
          refine wpAnyH_ready (rs := [14]) (by kernel_rfl) (by simp) ?_
          refine AllReadyH.cons (o := _) rfl (fun K hK => ?_) AllReadyH.nil
          go_simp
          (go_at_call 58; refine (HLE.out _).mono ?_; rintro e w7 ⟨rfl, hb7⟩)
          try (go_wp2_with fail)
          refine hK.out _ _ ?_ (fun hHr6_2 => ?_)
          · (try dsimp only); (first | assumption | exact hS _ (Bel.refl w5).drew | exact hS _ hB6 | exact hS _ (hB6.then_ hb7))
          clear hK K hHr6_1
          try simp only [Act.put, List.getElem_toArray, List.getElem_cons_succ, List.getElem_cons_zero, List.setIfInBounds_toArray, List.set_cons_zero, List.set_cons_succ]
          refine wpAnyH_take (i := 15) (oi := _) (v := ?vr6_1_15) rfl (by kernel_rfl) (by kernel_rfl) (by kernel_rfl) ?hqr6_1_15 (Or.inl ⟨by kernel_rfl, ?hyr6_1_15⟩) (by assumption) ?restr6_1_15
          case hqr6_1_15 => exact fun _ _ _ h => h
          case hyr6_1_15 => (intro w hSw; (try dsimp only at hSw); go_simp; try with_reducible rfl)
          try simp only [Act.put, List.getElem_toArray, List.getElem_cons_succ, List.getElem_cons_zero, List.setIfInBounds_toArray, List.set_cons_zero, List.set_cons_succ]
          refine wpAnyH_take (i := 16) (oi := _) (v := ?vr6_1_16) rfl (by kernel_rfl) (by kernel_rfl) (by kernel_rfl) ?hqr6_1_16 (Or.inl ⟨by kernel_rfl, ?hyr6_1_16⟩) (by assumption) ?restr6_1_16
          case hqr6_1_16 => exact fun _ _ _ h => h
          case hyr6_1_16 => (intro w hSw; (try dsimp only at hSw); go_simp; try with_reducible rfl)
          try simp only [Act.put, List.getElem_toArray, List.getElem_cons_succ, List.getElem_cons_zero, List.setIfInBounds_toArray, List.set_cons_zero, List.set_cons_succ]
          refine wpAnyH_take (i := 17) (oi := _) (v := ?vr6_1_17) rfl (by kernel_rfl) (by kernel_rfl) (by kernel_rfl) ?hqr6_1_17 (Or.inl ⟨by kernel_rfl, ?hyr6_1_17⟩) (by assumption) ?restr6_1_17
          case hqr6_1_17 => exact fun _ _ _ h => h
          case hyr6_1_17 => (intro w hSw; (try dsimp only at hSw); go_simp; try with_reducible rfl)
          try simp only [Act.put, List.getElem_toArray, List.getElem_cons_succ, List.getElem_cons_zero, List.setIfInBounds_toArray, List.set_cons_zero, List.set_cons_succ]
          refine wpAnyH_take (i := 18) (oi := _) (v := ?vr6_1_18) rfl (by kernel_rfl) (by kernel_rfl) (by kernel_rfl) ?hqr6_1_18 (Or.inl ⟨by kernel_rfl, ?hyr6_1_18⟩) (by assumption) ?restr6_1_18
          case hqr6_1_18 => exact fun _ _ _ h => h
          case hyr6_1_18 => (intro w hSw; (try dsimp only at hSw); go_simp; try with_reducible rfl)
          try simp only [Act.put, List.getElem_toArray, List.getElem_cons_succ, List.getElem_cons_zero, List.setIfInBounds_toArray, List.set_cons_zero, List.set_cons_succ]
          refine wpAnyH_take (i := 19) (oi := _) (v := ?vr6_1_19) rfl (by kernel_rfl) (by kernel_rfl) (by kernel_rfl) ?hqr6_1_19 (Or.inl ⟨by kernel_rfl, ?hyr6_1_19⟩) (by assumption) ?restr6_1_19
          case hqr6_1_19 => exact fun _ _ _ h => h
          case hyr6_1_19 => (intro w hSw; (try dsimp only at hSw); go_simp; try with_reducible rfl)
          try simp only [Act.put, List.getElem_toArray, List.getElem_cons_succ, List.getElem_cons_zero, List.setIfInBounds_toArray, List.set_cons_zero, List.set_cons_succ]
          refine wpAnyH_take (i := 20) (oi := _) (v := ?vr6_1_20) rfl (by kernel_rfl) (by kernel_rfl) (by kernel_rfl) ?hqr6_1_20 (Or.inl ⟨by kernel_rfl, ?hyr6_1_20⟩) (by assumption) ?restr6_1_20
          case hqr6_1_20 => exact fun _ _ _ h => h
          case hyr6_1_20 => (intro w hSw; (try dsimp only at hSw); go_simp; try with_reducible rfl)
          try simp only [Act.put, List.getElem_toArray, List.getElem_cons_succ, List.getElem_cons_zero, List.setIfInBounds_toArray, List.set_cons_zero, List.set_cons_succ]
          refine wpAnyH_done (by kernel_rfl) ?_ _
          refine NoPanic.normal ?_
          go_wp2
          go_ret
          exact ⟨by rw [hR2]; rfl, hB5.then_ (by assumption : _ ∧ _ ∧ _ ∧ Bel w5 _).2.2.2⟩
        · have hub : decide (32767 < n) = false := by simp; omega
          have hR2 : R = 0 := by rw [HR1.out, if_pos (by omega)]
          refine wp_region_noPanic ?_
          refine wp_region_held_drew (S := (fun V : World => V.cell? ⟨w.heap.size, 2, none⟩ = some (.int .i64 2) ∧ V.cell? ⟨w.heap.size + 1, 1, none⟩ = some (.int .i64 n) ∧ V.cell? ⟨w.heap.size + 1, 2, none⟩ = some (.int .u64 u) ∧ Bel w5 V)) (by kernel_rfl) ?_ (fun hHr7_0 => ?_)
          · (try dsimp only); (first | assumption | exact hS _ (Bel.refl w5).drew | exact hS _ hB6 | exact hS _ (hB6.then_ hb7))
          refine wpAnyH_take (i := 0) (oi := _) (v := ?vr7_1_0) rfl (by kernel_rfl) (by kernel_rfl) (by kernel_rfl) ?hqr7_1_0 (Or.inl ⟨by kernel_rfl, ?hyr7_1_0⟩) (by assumption) ?restr7_1_0
          case hqr7_1_0 => exact fun _ _ _ h => h
          case hyr7_1_0 => (intro w hSw; (try dsimp only at hSw); go_simp; try with_reducible rfl)
          try simp only [Act.put, List.getElem_toArray, List.getElem_cons_succ, List.getElem_cons_zero, List.setIfInBounds_toArray, List.set_cons_zero, List.set_cons_succ]
          refine wpAnyH_take (i := 1) (oi := _) (v := ?vr7_1_1) rfl (by kernel_rfl) (by kernel_rfl) (by kernel_rfl) ?hqr7_1_1 (Or.inl ⟨by kernel_rfl, ?hyr7_1_1⟩) (by assumption) ?restr7_1_1
          case hqr7_1_1 => exact fun _ _ _ h => h
          case hyr7_1_1 => (intro w hSw; (try dsimp only at hSw); go_simp; try with_reducible rfl)
          try simp only [Act.put, List.getElem_toArray, List.getElem_cons_succ, List.getElem_cons_zero, List.setIfInBounds_toArray, List.set_cons_zero, List.set_cons_succ]
          refine wpAnyH_take (i := 2) (oi := _) (v := ?vr7_1_2) rfl (by kernel_rfl) (by kernel_rfl) (by kernel_rfl) ?hqr7_1_2 (Or.inl ⟨by kernel_rfl, ?hyr7_1_2⟩) (by assumption) ?restr7_1_2
          case hqr7_1_2 => exact fun _ _ _ h => h
          case hyr7_1_2 => (intro w hSw; (try dsimp only at hSw); go_simp; try with_reducible rfl)
          try simp only [Act.put, List.getElem_toArray, List.getElem_cons_succ, List.getElem_cons_zero, List.setIfInBounds_toArray, List.set_cons_zero, List.set_cons_succ]
          refine wpAnyH_take (i := 3) (oi := _) (v := ?vr7_1_3) rfl (by kernel_rfl) (by kernel_rfl) (by kernel_rfl) ?hqr7_1_3 (Or.inl ⟨by kernel_rfl, ?hyr7_1_3⟩) (by assumption) ?restr7_1_3
          case hqr7_1_3 => exact fun _ _ _ h => h
          case hyr7_1_3 => (intro w hSw; (try dsimp only at hSw); go_simp; try with_reducible rfl)
          try simp only [Act.put, List.getElem_toArray, List.getElem_cons_succ, List.getElem_cons_zero, List.setIfInBounds_toArray, List.set_cons_zero, List.set_cons_succ]
          refine wpAnyH_take (i := 4) (oi := _) (v := ?vr7_1_4) rfl (by kernel_rfl) (by kernel_rfl) (by kernel_rfl) ?hqr7_1_4 (Or.inl ⟨by kernel_rfl, ?hyr7_1_4⟩) (by assumption) ?restr7_1_4
          case hqr7_1_4 => exact fun _ _ _ h => h
          case hyr7_1_4 => (intro w hSw; (try dsimp only at hSw); go_simp; try with_reducible rfl)
          try simp only [Act.put, List.getElem_toArray, List.getElem_cons_succ, List.getElem_cons_zero, List.setIfInBounds_toArray, List.set_cons_zero, List.set_cons_succ]
          refine wpAnyH_take (i := 5) (oi := _) (v := ?vr7_1_5) rfl (by kernel_rfl) (by kernel_rfl) (by kernel_rfl) ?hqr7_1_5 (Or.inl ⟨by kernel_rfl, ?hyr7_1_5⟩) (by assumption) ?restr7_1_5
          case hqr7_1_5 => exact fun _ _ _ h => h
          case hyr7_1_5 => (intro w hSw; (try dsimp only at hSw); go_simp; try with_reducible rfl)
          try simp only [Act.put, List.getElem_toArray, List.getElem_cons_succ, List.getElem_cons_zero, List.setIfInBounds_toArray, List.set_cons_zero, List.set_cons_succ]
          refine wpAnyH_take (i := 6) (oi := _) (v := ?vr7_1_6) rfl (by kernel_rfl) (by kernel_rfl) (by kernel_rfl) ?hqr7_1_6 (Or.inl ⟨by kernel_rfl, ?hyr7_1_6⟩) (by assumption) ?restr7_1_6
          case hqr7_1_6 => exact fun _ _ _ h => h
          case hyr7_1_6 => (intro w hSw; (try dsimp only at hSw); go_simp; try with_reducible rfl)
          try simp only [Act.put, List.getElem_toArray, List.getElem_cons_succ, List.getElem_cons_zero, List.setIfInBounds_toArray, List.set_cons_zero, List.set_cons_succ]
          refine wpAnyH_ready (rs := [7]) (by kernel_rfl) (by simp) ?_
          refine AllReadyH.cons (o := _) rfl (fun K hK => ?_) AllReadyH.nil
          go_simp
          (go_at_call 58; refine (HLE.out _).mono ?_; rintro e w6 ⟨rfl, hb6⟩; have hB6 : Bel w5 w6 := Bel.then_ (Bel.refl w5).drew hb6)
          try (go_wp2_with fail)
          refine hK.out _ _ ?_ (fun hHr7_1 => ?_)
          · (try dsimp only); (first | assumption | exact hS _ (Bel.refl w5).drew | exact hS _ hB6 | exact hS _ (hB6.then_ hb7))
          clear hK K hHr7_0
          try simp only [Act.put, List.getElem_toArray, List.getElem_cons_succ, List.getElem_cons_zero, List.setIfInBounds_toArray, List.set_cons_zero, List.set_cons_succ]
          refine wpAnyH_take (i := 8) (oi := _) (v := ?vr7_1_8) rfl (by kernel_rfl) (by kernel_rfl) (by kernel_rfl) ?hqr7_1_8 (Or.inl ⟨by kernel_rfl, ?hyr7_1_8⟩) (by assumption) ?restr7_1_8
          case hqr7_1_8 => exact fun _ _ _ h => h
          case hyr7_1_8 => (intro w hSw; (try dsimp only at hSw); go_simp; try with_reducible rfl)
          try simp only [Act.put, List.getElem_toArray, List.getElem_cons_succ, List.getElem_cons_zero, List.setIfInBounds_toArray, List.set_cons_zero, List.set_cons_succ]
          refine wpAnyH_take (i := 9) (oi := _) (v := ?vr7_1_9) rfl (by kernel_rfl) (by kernel_rfl) (by kernel_rfl) ?hqr7_1_9 (Or.inl ⟨by kernel_rfl, ?hyr7_1_9⟩) (by assumption) ?restr7_1_9
          case hqr7_1_9 => exact fun _ _ _ h => h
          case hyr7_1_9 => (intro w hSw; (try dsimp only at hSw); go_simp; try with_reducible rfl)
          try simp only [Act.put, List.getElem_toArray, List.getElem_cons_succ, List.getElem_cons_zero, List.setIfInBounds_toArray, List.set_cons_zero, List.set_cons_succ]
          refine wpAnyH_take (i := 10) (oi := _) (v := ?vr7_1_10) rfl (by kernel_rfl) (by kernel_rfl) (by kernel_rfl) ?hqr7_1_10 (Or.inl ⟨by kernel_rfl, ?hyr7_1_10⟩) (by assumption) ?restr7_1_10
          case hqr7_1_10 => exact fun _ _ _ h => h
          case hyr7_1_10 => (intro w hSw; (try dsimp only at hSw); go_simp; try with_reducible rfl)
          try simp only [Act.put, List.getElem_toArray, List.getElem_cons_succ, List.getElem_cons_zero, List.setIfInBounds_toArray, List.set_cons_zero, List.set_cons_succ]
          refine wpAnyH_take (i := 11) (oi := _) (v := ?vr7_1_11) rfl (by kernel_rfl) (by kernel_rfl) (by kernel_rfl) ?hqr7_1_11 (Or.inl ⟨by kernel_rfl, ?hyr7_1_11⟩) (by assumption) ?restr7_1_11
          case hqr7_1_11 => exact fun _ _ _ h => h
          case hyr7_1_11 => (intro w hSw; (try dsimp only at hSw); go_simp; try with_reducible rfl)
          try simp only [Act.put, List.getElem_toArray, List.getElem_cons_succ, List.getElem_cons_zero, List.setIfInBounds_toArray, List.set_cons_zero, List.set_cons_succ]
          refine wpAnyH_take (i := 12) (oi := _) (v := ?vr7_1_12) rfl (by kernel_rfl) (by kernel_rfl) (by kernel_rfl) ?hqr7_1_12 (Or.inl ⟨by kernel_rfl, ?hyr7_1_12⟩) (by assumption) ?restr7_1_12
          case hqr7_1_12 => exact fun _ _ _ h => h
          case hyr7_1_12 => (intro w hSw; (try dsimp only at hSw); go_simp; try with_reducible rfl)
          try simp only [Act.put, List.getElem_toArray, List.getElem_cons_succ, List.getElem_cons_zero, List.setIfInBounds_toArray, List.set_cons_zero, List.set_cons_succ]
          refine wpAnyH_take (i := 13) (oi := _) (v := ?vr7_1_13) rfl (by kernel_rfl) (by kernel_rfl) (by kernel_rfl) ?hqr7_1_13 (Or.inl ⟨by kernel_rfl, ?hyr7_1_13⟩) (by assumption) ?restr7_1_13
          case hqr7_1_13 => exact fun _ _ _ h => h
          case hyr7_1_13 => (intro w hSw; (try dsimp only at hSw); go_simp; try with_reducible rfl)
          try simp only [Act.put, List.getElem_toArray, List.getElem_cons_succ, List.getElem_cons_zero, List.setIfInBounds_toArray, List.set_cons_zero, List.set_cons_succ]
          refine wpAnyH_ready (rs := [14]) (by kernel_rfl) (by simp) ?_
          refine AllReadyH.cons (o := _) rfl (fun K hK => ?_) AllReadyH.nil
          go_simp
          (go_at_call 58; refine (HLE.out _).mono ?_; rintro e w7 ⟨rfl, hb7⟩)
          try (go_wp2_with fail)
          refine hK.out _ _ ?_ (fun hHr7_2 => ?_)
          · (try dsimp only); (first | assumption | exact hS _ (Bel.refl w5).drew | exact hS _ hB6 | exact hS _ (hB6.then_ hb7))
          clear hK K hHr7_1
          try simp only [Act.put, List.getElem_toArray, List.getElem_cons_succ, List.getElem_cons_zero, List.setIfInBounds_toArray, List.set_cons_zero, List.set_cons_succ]
          refine wpAnyH_take (i := 15) (oi := _) (v := ?vr7_1_15) rfl (by kernel_rfl) (by kernel_rfl) (by kernel_rfl) ?hqr7_1_15 (Or.inl ⟨by kernel_rfl, ?hyr7_1_15⟩) (by assumption) ?restr7_1_15
          case hqr7_1_15 => exact fun _ _ _ h => h
          case hyr7_1_15 => (intro w hSw; (try dsimp only at hSw); go_simp; try with_reducible rfl)
          try simp only [Act.put, List.getElem_toArray, List.getElem_cons_succ, List.getElem_cons_zero, List.setIfInBounds_toArray, List.set_cons_zero, List.set_cons_succ]
          refine wpAnyH_take (i := 16) (oi := _) (v := ?vr7_1_16) rfl (by kernel_rfl) (by kernel_rfl) (by kernel_rfl) ?hqr7_1_16 (Or.inl ⟨by kernel_rfl, ?hyr7_1_16⟩) (by assumption) ?restr7_1_16
          case hqr7_1_16 => exact fun _ _ _ h => h
          case hyr7_1_16 => (intro w hSw; (try dsimp only at hSw); go_simp; try with_reducible rfl)
          try simp only [Act.put, List.getElem_toArray, List.getElem_cons_succ, List.getElem_cons_zero, List.setIfInBounds_toArray, List.set_cons_zero, List.set_cons_succ]
          refine wpAnyH_take (i := 17) (oi := _) (v := ?vr7_1_17) rfl (by kernel_rfl) (by kernel_rfl) (by kernel_rfl) ?hqr7_1_17 (Or.inl ⟨by kernel_rfl, ?hyr7_1_17⟩) (by assumption) ?restr7_1_17
          case hqr7_1_17 => exact fun _ _ _ h => h
          case hyr7_1_17 => (intro w hSw; (try dsimp only at hSw); go_simp; try with_reducible rfl)
          try simp only [Act.put, List.getElem_toArray, List.getElem_cons_succ, List.getElem_cons_zero, List.setIfInBounds_toArray, List.set_cons_zero, List.set_cons_succ]
          refine wpAnyH_take (i := 18) (oi := _) (v := ?vr7_1_18) rfl (by kernel_rfl) (by kernel_rfl) (by kernel_rfl) ?hqr7_1_18 (Or.inl ⟨by kernel_rfl, ?hyr7_1_18⟩) (by assumption) ?restr7_1_18
          case hqr7_1_18 => exact fun _ _ _ h => h
          case hyr7_1_18 => (intro w hSw; (try dsimp only at hSw); go_simp; try with_reducible rfl)
          try simp only [Act.put, List.getElem_toArray, List.getElem_cons_succ, List.getElem_cons_zero, List.setIfInBounds_toArray, List.set_cons_zero, List.set_cons_succ]
          refine wpAnyH_take (i := 19) (oi := _) (v := ?vr7_1_19) rfl (by kernel_rfl) (by kernel_rfl) (by kernel_rfl) ?hqr7_1_19 (Or.inl ⟨by kernel_rfl, ?hyr7_1_19⟩) (by assumption) ?restr7_1_19
          case hqr7_1_19 => exact fun _ _ _ h => h
          case hyr7_1_19 => (intro w hSw; (try dsimp only at hSw); go_simp; try with_reducible rfl)
          try simp only [Act.put, List.getElem_toArray, List.getElem_cons_succ, List.getElem_cons_zero, List.setIfInBounds_toArray, List.set_cons_zero, List.set_cons_succ]
          refine wpAnyH_take (i := 20) (oi := _) (v := ?vr7_1_20) rfl (by kernel_rfl) (by kernel_rfl) (by kernel_rfl) ?hqr7_1_20 (Or.inl ⟨by kernel_rfl, ?hyr7_1_20⟩) (by assumption) ?restr7_1_20
          case hqr7_1_20 => exact fun _ _ _ h => h
          case hyr7_1_20 => (intro w hSw; (try dsimp only at hSw); go_simp; try with_reducible rfl)
          try simp only [Act.put, List.getElem_toArray, List.getElem_cons_succ, List.getElem_cons_zero, List.setIfInBounds_toArray, List.set_cons_zero, List.set_cons_succ]
          refine wpAnyH_done (by kernel_rfl) ?_ _
          refine NoPanic.normal ?_
          have hB7 := (by assumption : _ ∧ _ ∧ _ ∧ Bel w5 _).2.2.2
          go_wp2
          refine wp_region_noPanic ?_
          refine wp_region_held_drew (S := (fun V : World => Bel w5 V)) (by kernel_rfl) ?_ (fun hHr8_0 => ?_)
          · (try dsimp only); (first | assumption | exact hB7.drew)
          refine wpAnyH_take (i := 0) (oi := _) (v := ?vr8_1_0) rfl (by kernel_rfl) (by kernel_rfl) (by kernel_rfl) ?hqr8_1_0 (Or.inl ⟨by kernel_rfl, ?hyr8_1_0⟩) (by assumption) ?restr8_1_0
          case hqr8_1_0 => exact fun _ _ _ h => h
          case hyr8_1_0 => (intro w hSw; (try dsimp only at hSw); go_simp; try with_reducible rfl)
          try simp only [Act.put, List.getElem_toArray, List.getElem_cons_succ, List.getElem_cons_zero, List.setIfInBounds_toArray, List.set_cons_zero, List.set_cons_succ]
          refine wpAnyH_take (i := 1) (oi := _) (v := ?vr8_1_1) rfl (by kernel_rfl) (by kernel_rfl) (by kernel_rfl) ?hqr8_1_1 (Or.inl ⟨by kernel_rfl, ?hyr8_1_1⟩) (by assumption) ?restr8_1_1
          case hqr8_1_1 => exact fun _ _ _ h => h
          case hyr8_1_1 => (intro w hSw; (try dsimp only at hSw); go_simp; try with_reducible rfl)
          try simp only [Act.put, List.getElem_toArray, List.getElem_cons_succ, List.getElem_cons_zero, List.setIfInBounds_toArray, List.set_cons_zero, List.set_cons_succ]
          refine wpAnyH_take (i := 2) (oi := _) (v := ?vr8_1_2) rfl (by kernel_rfl) (by kernel_rfl) (by kernel_rfl) ?hqr8_1_2 (Or.inl ⟨by kernel_rfl, ?hyr8_1_2⟩) (by assumption) ?restr8_1_2
          case hqr8_1_2 => exact fun _ _ _ h => h
          case hyr8_1_2 => (intro w hSw; (try dsimp only at hSw); go_simp; try with_reducible rfl)
          try simp only [Act.put, List.getElem_toArray, List.getElem_cons_succ, List.getElem_cons_zero, List.setIfInBounds_toArray, List.set_cons_zero, List.set_cons_succ]
          refine wpAnyH_take (i := 3) (oi := _) (v := undef) rfl (by kernel_rfl) (by kernel_rfl) (by kernel_rfl) (fun _ _ _ h => h) (Or.inr ⟨by kernel_rfl, rfl⟩) (by assumption) ?restr8_1_3
          try simp only [Act.put, List.getElem_toArray, List.getElem_cons_succ, List.getElem_cons_zero, List.setIfInBounds_toArray, List.set_cons_zero, List.set_cons_succ]
          refine wpAnyH_take (i := 4) (oi := _) (v := undef) rfl (by kernel_rfl) (by kernel_rfl) (by kernel_rfl) (fun _ _ _ h => h) (Or.inr ⟨by kernel_rfl, rfl⟩) (by assumption) ?restr8_1_4
          try simp only [Act.put, List.getElem_toArray, List.getElem_cons_succ, List.getElem_cons_zero, List.setIfInBounds_toArray, List.set_cons_zero, List.set_cons_succ]
          refine wpAnyH_take (i := 5) (oi := _) (v := undef) rfl (by kernel_rfl) (by kernel_rfl) (by kernel_rfl) (fun _ _ _ h => h) (Or.inr ⟨by kernel_rfl, rfl⟩) (by assumption) ?restr8_1_5
          try simp only [Act.put, List.getElem_toArray, List.getElem_cons_succ, List.getElem_cons_zero, List.setIfInBounds_toArray, List.set_cons_zero, List.set_cons_succ]
          refine wpAnyH_take (i := 6) (oi := _) (v := undef) rfl (by kernel_rfl) (by kernel_rfl) (by kernel_rfl) (fun _ _ _ h => h) (Or.inr ⟨by kernel_rfl, rfl⟩) (by assumption) ?restr8_1_6
          try simp only [Act.put, List.getElem_toArray, List.getElem_cons_succ, List.getElem_cons_zero, List.setIfInBounds_toArray, List.set_cons_zero, List.set_cons_succ]
          refine wpAnyH_take (i := 7) (oi := _) (v := undef) rfl (by kernel_rfl) (by kernel_rfl) (by kernel_rfl) (fun _ _ _ h => h) (Or.inr ⟨by kernel_rfl, rfl⟩) (by assumption) ?restr8_1_7
          try simp only [Act.put, List.getElem_toArray, List.getElem_cons_succ, List.getElem_cons_zero, List.setIfInBounds_toArray, List.set_cons_zero, List.set_cons_succ]
          refine wpAnyH_take (i := 8) (oi := _) (v := undef) rfl (by kernel_rfl) (by kernel_rfl) (by kernel_rfl) (fun _ _ _ h => h) (Or.inr ⟨by kernel_rfl, rfl⟩) (by assumption) ?restr8_1_8
          try simp only [Act.put, List.getElem_toArray, List.getElem_cons_succ, List.getElem_cons_zero, List.setIfInBounds_toArray, List.set_cons_zero, List.set_cons_succ]
          refine wpAnyH_take (i := 9) (oi := _) (v := ?vr8_1_9) rfl (by kernel_rfl) (by kernel_rfl) (by kernel_rfl) ?hqr8_1_9 (Or.inl ⟨by kernel_rfl, ?hyr8_1_9⟩) (by assumption) ?restr8_1_9
          case hqr8_1_9 => exact fun _ _ _ h => h
          case hyr8_1_9 => (intro w hSw; (try dsimp only at hSw); go_simp; try with_reducible rfl)
          try simp only [Act.put, List.getElem_toArray, List.getElem_cons_succ, List.getElem_cons_zero, List.setIfInBounds_toArray, List.set_cons_zero, List.set_cons_succ]
          refine wpAnyH_take (i := 10) (oi := _) (v := ?vr8_1_10) rfl (by kernel_rfl) (by kernel_rfl) (by kernel_rfl) ?hqr8_1_10 (Or.inl ⟨by kernel_rfl, ?hyr8_1_10⟩) (by assumption) ?restr8_1_10
          case hqr8_1_10 => exact fun _ _ _ h => h
          case hyr8_1_10 => (intro w hSw; (try dsimp only at hSw); go_simp; try with_reducible rfl)
          try simp only [Act.put, List.getElem_toArray, List.getElem_cons_succ, List.getElem_cons_zero, List.setIfInBounds_toArray, List.set_cons_zero, List.set_cons_succ]
          refine wpAnyH_done (by kernel_rfl) ?_ _
          refine NoPanic.normal ?_
          go_wp2
          go_ret
          exact ⟨by rw [hR2]; rfl, hB5.then_ hB7.drew⟩
    · simp only [leastI] at HLE HR1
      have v1 : IntKind.i64.wrap (-2147483647) = -2147483647 := by decide
      have v2 : IntKind.i64.wrap 2147483647 = 2147483647 := by decide
      have v3 : IntKind.i64.wrap (-2147483648 + 1) = -2147483647 := by decide
      have v4 : IntKind.i64.wrap (-(-2147483647)) = 2147483647 := by decide
      go_enter Tryz.func24, Tryz.ntmps24
      go_wp2_with (first | (go_at_call 56; refine (HCO.out _).mono ?_; rintro e w4 ⟨rfl, hb4⟩; obtain ⟨⟨a0, a1, a2, a3, c0, c1, c2, c3⟩, hB4⟩ := HCL.out _ hb4) | (go_at_call 57; refine (HCH.out _).mono ?_; rintro e w5 ⟨rfl, hb5⟩; obtain ⟨⟨d0, d1, d2, d3, e0, e1, e2, e3⟩, hB5⟩ := HCL.out _ (hb4.then_ hb5)))
      have hS : ∀ V, Bel w5 V → (V.cell? ⟨w.heap.size, 2, none⟩ = some (.int .i64 4) ∧ V.cell? ⟨w.heap.size + 1, 1, none⟩ = some (.int .i64 n) ∧ V.cell? ⟨w.heap.size + 1, 2, none⟩ = some (.int .u64 u) ∧ Bel w5 V) := fun V h => ⟨h.c d2, h.c e1, h.c e2, h⟩
      by_cases hl : n < -2147483648
      · have hR2 : R = 133 := by rw [HR1.out, if_neg (by omega)]
        refine wp_region_noPanic ?_
        refine wp_region_held_drew (S := (fun V : World => V.cell? ⟨w.heap.size, 2, none⟩ = some (.int .i64 4) ∧ V.cell? ⟨w.heap.size + 1, 1, none⟩ = some (.int .i64 n) ∧ V.cell? ⟨w.heap.size + 1, 2, none⟩ = some (.int .u64 u) ∧ Bel w5 V)) (by kernel_rfl) ?_ (fun hHr9_0 => ?_)
        · (try dsimp only); (first | assumption | exact hS _ (Bel.refl w5).drew | exact hS _ hB6 | exact hS _ (hB6.then_ hb7))
        refine wpAnyH_take (i := 0) (oi := _) (v := ?vr9_1_0) rfl (by kernel_rfl) (by kernel_rfl) (by kernel_rfl) ?hqr9_1_0 (Or.inl ⟨by kernel_rfl, ?hyr9_1_0⟩) (by assumption) ?restr9_1_0
        case hqr9_1_0 => exact fun _ _ _ h => h
        case hyr9_1_0 => (intro w hSw; (try dsimp only at hSw); go_simp; try with_reducible rfl)
        try simp only [Act.put, List.getElem_toArray, List.getElem_cons_succ, List.getElem_cons_zero, List.setIfInBounds_toArray, List.set_cons_zero, List.set_cons_succ]
        refine wpAnyH_take (i := 1) (oi := _) (v := ?vr9_1_1) rfl (by kernel_rfl) (by kernel_rfl) (by kernel_rfl) ?hqr9_1_1 (Or.inl ⟨by kernel_rfl, ?hyr9_1_1⟩) (by assumption) ?restr9_1_1
        case hqr9_1_1 => exact fun _ _ _ h => h
        case hyr9_1_1 => (intro w hSw; (try dsimp only at hSw); go_simp; try with_reducible rfl)
        try simp only [Act.put, List.getElem_toArray, List.getElem_cons_succ, List.getElem_cons_zero, List.setIfInBounds_toArray, List.set_cons_zero, List.set_cons_succ]
        refine wpAnyH_take (i := 2) (oi := _) (v := ?vr9_1_2) rfl (by kernel_rfl) (by kernel_rfl) (by kernel_rfl) ?hqr9_1_2 (Or.inl ⟨by kernel_rfl, ?hyr9_1_2⟩) (by assumption) ?restr9_1_2
        case hqr9_1_2 => exact fun _ _ _ h => h
        case hyr9_1_2 => (intro w hSw; (try dsimp only at hSw); go_simp; try with_reducible rfl)
        try simp only [Act.put, List.getElem_toArray, List.getElem_cons_succ, List.getElem_cons_zero, List.setIfInBounds_toArray, List.set_cons_zero, List.set_cons_succ]
        refine wpAnyH_take (i := 3) (oi := _) (v := ?vr9_1_3) rfl (by kernel_rfl) (by kernel_rfl) (by kernel_rfl) ?hqr9_1_3 (Or.inl ⟨by kernel_rfl, ?hyr9_1_3⟩) (by assumption) ?restr9_1_3
        case hqr9_1_3 => exact fun _ _ _ h => h
        case hyr9_1_3 => (intro w hSw; (try dsimp only at hSw); go_simp; try with_reducible rfl)
        try simp only [Act.put, List.getElem_toArray, List.getElem_cons_succ, List.getElem_cons_zero, List.setIfInBounds_toArray, List.set_cons_zero, List.set_cons_succ]
        refine wpAnyH_take (i := 4) (oi := _) (v := ?vr9_1_4) rfl (by kernel_rfl) (by kernel_rfl) (by kernel_rfl) ?hqr9_1_4 (Or.inl ⟨by kernel_rfl, ?hyr9_1_4⟩) (by assumption) ?restr9_1_4
        case hqr9_1_4 => exact fun _ _ _ h => h
        case hyr9_1_4 => (intro w hSw; (try dsimp only at hSw); go_simp; try with_reducible rfl)
        try simp only [Act.put, List.getElem_toArray, List.getElem_cons_succ, List.getElem_cons_zero, List.setIfInBounds_toArray, List.set_cons_zero, List.set_cons_succ]
        refine wpAnyH_take (i := 5) (oi := _) (v := ?vr9_1_5) rfl (by kernel_rfl) (by kernel_rfl) (by kernel_rfl) ?hqr9_1_5 (Or.inl ⟨by kernel_rfl, ?hyr9_1_5⟩) (by assumption) ?restr9_1_5
        case hqr9_1_5 => exact fun _ _ _ h => h
        case hyr9_1_5 => (intro w hSw; (try dsimp only at hSw); go_simp; try with_reducible rfl)
        try simp only [Act.put, List.getElem_toArray, List.getElem_cons_succ, List.getElem_cons_zero, List.setIfInBounds_toArray, List.set_cons_zero, List.set_cons_succ]
        refine wpAnyH_take (i := 6) (oi := _) (v := ?vr9_1_6) rfl (by kernel_rfl) (by kernel_rfl) (by kernel_rfl) ?hqr9_1_6 (Or.inl ⟨by kernel_rfl, ?hyr9_1_6⟩) (by assumption) ?restr9_1_6
        case hqr9_1_6 => exact fun _ _ _ h => h
        case hyr9_1_6 => (intro w hSw; (try dsimp only at hSw); go_simp; try with_reducible rfl)
        try simp only [Act.put, List.getElem_toArray, List.getElem_cons_succ, List.getElem_cons_zero, List.setIfInBounds_toArray, List.set_cons_zero, List.set_cons_succ]
        refine wpAnyH_ready (rs := [7]) (by kernel_rfl) (by simp) ?_
        refine AllReadyH.cons (o := _) rfl (fun K hK => ?_) AllReadyH.nil
        go_simp
        (go_at_call 58; refine (HLE.out _).mono ?_; rintro e w6 ⟨rfl, hb6⟩; have hB6 : Bel w5 w6 := Bel.then_ (Bel.refl w5).drew hb6)
        try (go_wp2_with fail)
        refine hK.out _ _ ?_ (fun hHr9_1 => ?_)
        · (try dsimp only); (first | assumption | exact hS _ (Bel.refl w5).drew | exact hS _ hB6 | exact hS _ (hB6.then_ hb7))
        clear hK K hHr9_0
        try simp only [Act.put, List.getElem_toArray, List.getElem_cons_succ, List.getElem_cons_zero, List.setIfInBounds_toArray, List.set_cons_zero, List.set_cons_succ]
        refine wpAnyH_take (i := 8) (oi := _) (v := ?vr9_1_8) rfl (by kernel_rfl) (by kernel_rfl) (by kernel_rfl) ?hqr9_1_8 (Or.inl ⟨by kernel_rfl, ?hyr9_1_8⟩) (by assumption) ?restr9_1_8
        case hqr9_1_8 => exact fun _ _ _ h => h
        case hyr9_1_8 => (intro w hSw; (try dsimp only at hSw); go_simp; try with_reducible rfl)
        try simp only [Act.put, List.getElem_toArray, List.getElem_cons_succ, List.getElem_cons_zero, List.setIfInBounds_toArray, List.set_cons_zero, List.set_cons_succ]
        refine wpAnyH_take (i := 9) (oi := _) (v := ?vr9_1_9) rfl (by kernel_rfl) (by kernel_rfl) (by kernel_rfl) ?hqr9_1_9 (Or.inl ⟨by kernel_rfl, ?hyr9_1_9⟩) (by assumption) ?restr9_1_9
        case hqr9_1_9 => exact fun _ _ _ h => h
        case hyr9_1_9 => (intro w hSw; (try dsimp only at hSw); go_simp; try with_reducible rfl)
        try simp only [Act.put, List.getElem_toArray, List.getElem_cons_succ, List.getElem_cons_zero, List.setIfInBounds_toArray, List.set_cons_zero, List.set_cons_succ]
        refine wpAnyH_take (i := 10) (oi := _) (v := undef) rfl (by kernel_rfl) (by kernel_rfl) (by kernel_rfl) (fun _ _ _ h => h) (Or.inr ⟨by kernel_rfl, rfl⟩) (by assumption) ?restr9_1_10
        try simp only [Act.put, List.getElem_toArray, List.getElem_cons_succ, List.getElem_cons_zero, List.setIfInBounds_toArray, List.set_cons_zero, List.set_cons_succ]
        refine wpAnyH_take (i := 11) (oi := _) (v := undef) rfl (by kernel_rfl) (by kernel_rfl) (by kernel_rfl) (fun _ _ _ h => h) (Or.inr ⟨by kernel_rfl, rfl⟩) (by assumption) ?restr9_1_11
        try simp only [Act.put, List.getElem_toArray, List.getElem_cons_succ, List.getElem_cons_zero, List.setIfInBounds_toArray, List.set_cons_zero, List.set_cons_succ]
        refine wpAnyH_take (i := 12) (oi := _) (v := undef) rfl (by kernel_rfl) (by kernel_rfl) (by kernel_rfl) (fun _ _ _ h => h) (Or.inr ⟨by kernel_rfl, rfl⟩) (by assumption) ?restr9_1_12
        try simp only [Act.put, List.getElem_toArray, List.getElem_cons_succ, List.getElem_cons_zero, List.setIfInBounds_toArray, List.set_cons_zero, List.set_cons_succ]
        refine wpAnyH_take (i := 13) (oi := _) (v := undef) rfl (by kernel_rfl) (by kernel_rfl) (by kernel_rfl) (fun _ _ _ h => h) (Or.inr ⟨by kernel_rfl, rfl⟩) (by assumption) ?restr9_1_13
        try simp only [Act.put, List.getElem_toArray, List.getElem_cons_succ, List.getElem_cons_zero, List.setIfInBounds_toArray, List.set_cons_zero, List.set_cons_succ]
        refine wpAnyH_take (i := 14) (oi := _) (v := undef) rfl (by kernel_rfl) (by kernel_rfl) (by kernel_rfl) (fun _ _ _ h => h) (Or.inr ⟨by kernel_rfl, rfl⟩) (by assumption) ?restr9_1_14
        try simp only [Act.put, List.getElem_toArray, List.getElem_cons_succ, List.getElem_cons_zero, List.setIfInBounds_toArray, List.set_cons_zero, List.set_cons_succ]
        refine wpAnyH_take (i := 15) (oi := _) (v := undef) rfl (by kernel_rfl) (by kernel_rfl) (by kernel_rfl) (fun _ _ _ h => h) (Or.inr ⟨by kernel_rfl, rfl⟩) (by assumption) ?restr9_1_15
        try simp only [Act.put, List.getElem_toArray, List.getElem_cons_succ, List.getElem_cons_zero, List.setIfInBounds_toArray, List.set_cons_zero, List.set_cons_succ]
        refine wpAnyH_take (i := 16) (oi := _) (v := undef) rfl (by kernel_rfl) (by kernel_rfl) (by kernel_rfl) (fun _ _ _ h => h) (Or.inr ⟨by kernel_rfl, rfl⟩) (by assumption) ?restr9_1_16
        try simp only [Act.put, List.getElem_toArray, List.getElem_cons_succ, List.getElem_cons_zero, List.setIfInBounds_toArray, List.set_cons_zero, List.set_cons_succ]
        refine wpAnyH_take (i := 17) (oi := _) (v := undef) rfl (by kernel_rfl) (by kernel_rfl) (by kernel_rfl) (fun _ _ _ h => h) (Or.inr ⟨by kernel_rfl, rfl⟩) (by assumption) ?restr9_1_17
        try simp only [Act.put, List.getElem_toArray, List.getElem_cons_succ, List.getElem_cons_zero, List.setIfInBounds_toArray, List.set_cons_zero, List.set_cons_succ]
        refine wpAnyH_take (i := 18) (oi := _) (v := ?vr9_1_18) rfl (by kernel_rfl) (by kernel_rfl) (by kernel_rfl) ?hqr9_1_18 (Or.inl ⟨by kernel_rfl, ?hyr9_1_18⟩) (by assumption) ?restr9_1_18
        case hqr9_1_18 => exact fun _ _ _ h => h
        case hyr9_1_18 => (intro w hSw; (try dsimp only at hSw); go_simp; try with_reducible rfl)
        try simp only [Act.put, List.getElem_toArray, List.getElem_cons_succ, List.getElem_cons_zero, List.setIfInBounds_toArray, List.set_cons_zero, List.set_cons_succ]
        refine wpAnyH_take (i := 19) (oi := _) (v := ?vr9_1_19) rfl (by kernel_rfl) (by kernel_rfl) (by kernel_rfl) ?hqr9_1_19 (Or.inl ⟨by kernel_rfl, ?hyr9_1_19⟩) (by assumption) ?restr9_1_19
        case hqr9_1_19 => exact fun _ _ _ h => h
        case hyr9_1_19 => (intro w hSw; (try dsimp only at hSw); go_simp; try with_reducible rfl)
        try simp only [Act.put, List.getElem_toArray, List.getElem_cons_succ, List.getElem_cons_zero, List.setIfInBounds_toArray, List.set_cons_zero, List.set_cons_succ]
        refine wpAnyH_take (i := 20) (oi := _) (v := ?vr9_1_20) rfl (by kernel_rfl) (by kernel_rfl) (by kernel_rfl) ?hqr9_1_20 (Or.inl ⟨by kernel_rfl, ?hyr9_1_20⟩) (by assumption) ?restr9_1_20
        case hqr9_1_20 => exact fun _ _ _ h => h
        case hyr9_1_20 => (intro w hSw; (try dsimp only at hSw); go_simp; try with_reducible rfl)
        try simp only [Act.put, List.getElem_toArray, List.getElem_cons_succ, List.getElem_cons_zero, List.setIfInBounds_toArray, List.set_cons_zero, List.set_cons_succ]
        refine wpAnyH_done (by kernel_rfl) ?_ _
        refine NoPanic.normal ?_
        go_wp2
        go_ret
        exact ⟨by rw [hR2]; rfl, hB5.then_ (by assumption : _ ∧ _ ∧ _ ∧ Bel w5 _).2.2.2⟩
      · have hlb : decide (n < -2147483648) = false := by simp; omega
        by_cases hu : 2147483647 < n
        · have hR2 : R = 133 := by rw [HR1.out, if_neg (by omega)]
          refine wp_region_noPanic ?_
          refine wp_region_held_drew (S := (fun V : World => V.cell? ⟨w.heap.size, 2, none⟩ = some (.int .i64 4) ∧ V.cell? ⟨w.heap.size + 1, 1, none⟩ = some (.int .i64 n) ∧ V.cell? ⟨w.heap.size + 1, 2, none⟩ = some (.int .u64 u) ∧ Bel w5 V)) (by kernel_rfl) ?_ (fun hHr10_0 => ?_)
          · (try dsimp only); (first | assumption | exact hS _ (Bel.refl w5).drew | exact hS _ hB6 | exact hS _ (hB6.then_ hb7))
          refine wpAnyH_take (i := 0) (oi := _) (v := ?vr10_1_0) rfl (by kernel_rfl) (by kernel_rfl) (by kernel_rfl) ?hqr10_1_0 (Or.inl ⟨by kernel_rfl, ?hyr10_1_0⟩) (by assumption) ?restr10_1_0
          case hqr10_1_0 => exact fun _ _ _ h => h
          case hyr10_1_0 => (intro w hSw; (try dsimp only at hSw); go_simp; try with_reducible rfl)
          try simp only [Act.put, List.getElem_toArray, List.getElem_cons_succ, List.getElem_cons_zero, List.setIfInBounds_toArray, List.set_cons_zero, List.set_cons_succ]
          refine wpAnyH_take (i := 1) (oi := _) (v := ?vr10_1_1) rfl (by kernel_rfl) (by kernel_rfl) (by kernel_rfl) ?hqr10_1_1 (Or.inl ⟨by kernel_rfl, ?hyr10_1_1⟩) (by assumption) ?restr10_1_1
          case hqr10_1_1 => exact fun _ _ _ h => h
          case hyr10_1_1 => (intro w hSw; (try dsimp only at hSw); go_simp; try with_reducible rfl)
          try simp only [Act.put, List.getElem_toArray, List.getElem_cons_succ, List.getElem_cons_zero, List.setIfInBounds_toArray, List.set_cons_zero, List.set_cons_succ]
          refine wpAnyH_take (i := 2) (oi := _) (v := ?vr10_1_2) rfl (by kernel_rfl) (by kernel_rfl) (by kernel_rfl) ?hqr10_1_2 (Or.inl ⟨by kernel_rfl, ?hyr10_1_2⟩) (by assumption) ?restr10_1_2
          case hqr10_1_2 => exact fun _ _ _ h => h
          case hyr10_1_2 => (intro w hSw; (try dsimp only at hSw); go_simp; try with_reducible rfl)
          try simp only [Act.put, List.getElem_toArray, List.getElem_cons_succ, List.getElem_cons_zero, List.setIfInBounds_toArray, List.set_cons_zero, List.set_cons_succ]
          refine wpAnyH_take (i := 3) (oi := _) (v := ?vr10_1_3) rfl (by kernel_rfl) (by kernel_rfl) (by kernel_rfl) ?hqr10_1_3 (Or.inl ⟨by kernel_rfl, ?hyr10_1_3⟩) (by assumption) ?restr10_1_3
          case hqr10_1_3 => exact fun _ _ _ h => h
          case hyr10_1_3 => (intro w hSw; (try dsimp only at hSw); go_simp; try with_reducible rfl)
          try simp only [Act.put, List.getElem_toArray, List.getElem_cons_succ, List.getElem_cons_zero, List.setIfInBounds_toArray, List.set_cons_zero, List.set_cons_succ]
          refine wpAnyH_take (i := 4) (oi := _) (v := ?vr10_1_4) rfl (by kernel_rfl) (by kernel_rfl) (by kernel_rfl) ?hqr10_1_4 (Or.inl ⟨by kernel_rfl, ?hyr10_1_4⟩) (by assumption) ?restr10_1_4
          case hqr10_1_4 => exact fun _ _ _ h => h
          case hyr10_1_4 => (intro w hSw; (try dsimp only at hSw); go_simp; try with_reducible rfl)
          try simp only [Act.put, List.getElem_toArray, List.getElem_cons_succ, List.getElem_cons_zero, List.setIfInBounds_toArray, List.set_cons_zero, List.set_cons_succ]
          refine wpAnyH_take (i := 5) (oi := _) (v := ?vr10_1_5) rfl (by kernel_rfl) (by kernel_rfl) (by kernel_rfl) ?hqr10_1_5 (Or.inl ⟨by kernel_rfl, ?hyr10_1_5⟩) (by assumption) ?restr10_1_5
          case hqr10_1_5 => exact fun _ _ _ h => h
          case hyr10_1_5 => (intro w hSw; (try dsimp only at hSw); go_simp; try with_reducible rfl)
          try simp only [Act.put, List.getElem_toArray, List.getElem_cons_succ, List.getElem_cons_zero, List.setIfInBounds_toArray, List.set_cons_zero, List.set_cons_succ]
          refine wpAnyH_take (i := 6) (oi := _) (v := ?vr10_1_6) rfl (by kernel_rfl) (by kernel_rfl) (by kernel_rfl) ?hqr10_1_6 (Or.inl ⟨by kernel_rfl, ?hyr10_1_6⟩) (by assumption) ?restr10_1_6
          case hqr10_1_6 => exact fun _ _ _ h => h
          case hyr10_1_6 => (intro w hSw; (try dsimp only at hSw); go_simp; try with_reducible rfl)
          try simp only [Act.put, List.getElem_toArray, List.getElem_cons_succ, List.getElem_cons_zero, List.setIfInBounds_toArray, List.set_cons_zero, List.set_cons_succ]
          refine wpAnyH_ready (rs := [7]) (by kernel_rfl) (by simp) ?_
          refine AllReadyH.cons (o := _) rfl (fun K hK => ?_) AllReadyH.nil
          go_simp
          (go_at_call 58; refine (HLE.out _).mono ?_; rintro e w6 ⟨rfl, hb6⟩; have hB6 : Bel w5 w6 := Bel.then_ (Bel.refl w5).drew hb6)
          try (go_wp2_with fail)
          refine hK.out _ _ ?_ (fun hHr10_1 => ?_)
          · (try dsimp only); (first | assumption | exact hS _ (Bel.refl w5).drew | exact hS _ hB6 | exact hS _ (hB6.then_ hb7))
          clear hK K hHr10_0
          try simp only [Act.put, List.getElem_toArray, List.getElem_cons_succ, List.getElem_cons_zero, List.setIfInBounds_toArray, List.set_cons_zero, List.set_cons_succ]
          refine wpAnyH_take (i := 8) (oi := _) (v := ?vr10_1_8) rfl (by kernel_rfl) (by kernel_rfl) (by kernel_rfl) ?hqr10_1_8 (Or.inl ⟨by kernel_rfl, ?hyr10_1_8⟩) (by assumption) ?restr10_1_8
          case hqr10_1_8 => exact fun _ _ _ h => h
          case hyr10_1_8 => (intro w hSw; (try dsimp only at hSw); go_simp; try with_reducible rfl)
          try simp only [Act.put, List.getElem_toArray, List.getElem_cons_succ, List.getElem_cons_zero, List.setIfInBounds_toArray, List.set_cons_zero, List.set_cons_succ]
          refine wpAnyH_take (i := 9) (oi := _) (v := ?vr10_1_9) rfl (by kernel_rfl) (by kernel_rfl) (by kernel_rfl) ?hqr10_1_9 (Or.inl ⟨by kernel_rfl, ?hyr10_1_9⟩) (by assumption) ?restr10_1_9
          case hqr10_1_9 => exact fun _ _ _ h => h
          case hyr10_1_9 => (intro w hSw; (try dsimp only at hSw); go_simp; try with_reducible rfl)
          try simp only [Act.put, List.getElem_toArray, List.getElem_cons_succ, List.getElem_cons_zero, List.setIfInBounds_toArray, List.set_cons_zero, List.set_cons_succ]
          refine wpAnyH_take (i := 10) (oi := _) (v := ?vr10_1_10) rfl (by kernel_rfl) (by kernel_rfl) (by kernel_rfl) ?hqr10_1_10 (Or.inl ⟨by kernel_rfl, ?hyr10_1_10⟩) (by assumption) ?restr10_1_10
          case hqr10_1_10 => exact fun _ _ _ h => h
          case hyr10_1_10 => (intro w hSw; (try dsimp only at hSw); go_simp; try with_reducible rfl)
          try simp only [Act.put, List.getElem_toArray, List.getElem_cons_succ, List.getElem_cons_zero, List.setIfInBounds_toArray, List.set_cons_zero, List.set_cons_succ]
          refine wpAnyH_take (i := 11) (oi := _) (v := ?vr10_1_11) rfl (by kernel_rfl) (by kernel_rfl) (by kernel_rfl) ?hqr10_1_11 (Or.inl ⟨by kernel_rfl, ?hyr10_1_11⟩) (by assumption) ?restr10_1_11
          case hqr10_1_11 => exact fun _ _ _ h => h
          case hyr10_1_11 => (intro w hSw; (try dsimp only at hSw); go_simp; try with_reducible rfl)
          try simp only [Act.put, List.getElem_toArray, List.getElem_cons_succ, List.getElem_cons_zero, List.setIfInBounds_toArray, List.set_cons_zero, List.set_cons_succ]
          refine wpAnyH_take (i := 12) (oi := _) (v := ?vr10_1_12) rfl (by kernel_rfl) (by kernel_rfl) (by kernel_rfl) ?hqr10_1_12 (Or.inl ⟨by kernel_rfl, ?hyr10_1_12⟩) (by assumption) ?restr10_1_12
          case hqr10_1_12 => exact fun _ _ _ h => h
          case hyr10_1_12 => (intro w hSw; (try dsimp only at hSw); go_simp; try with_reducible rfl)
          try simp only [Act.put, List.getElem_toArray, List.getElem_cons_succ, List.getElem_cons_zero, List.setIfInBounds_toArray, List.set_cons_zero, List.set_cons_succ]
          refine wpAnyH_take (i := 13) (oi := _) (v := ?vr10_1_13) rfl (by kernel_rfl) (by kernel_rfl) (by kernel_rfl) ?hqr10_1_13 (Or.inl ⟨by kernel_rfl, ?hyr10_1_13⟩) (by assumption) ?restr10_1_13
          case hqr10_1_13 => exact fun _ _ _ h => h
          case hyr10_1_13 => (intro w hSw; (try dsimp only at hSw); go_simp; try with_reducible rfl)
          try simp only [Act.put, List.getElem_toArray, List.getElem_cons_succ, List.getElem_cons_zero, List.setIfInBounds_toArray, List.set_cons_zero, List.set_cons_succ]
          refine wpAnyH_ready (rs := [14]) (by kernel_rfl) (by simp) ?_
          refine AllReadyH.cons (o := _) rfl (fun K hK => ?_) AllReadyH.nil
          go_simp
          (go_at_call 58; refine (HLE.out _).mono ?_; rintro e w7 ⟨rfl, hb7⟩)
          try (go_wp2_with fail)
          refine hK.out _ _ ?_ (fun hHr10_2 => ?_)
          · (try dsimp only); (first | assumption | exact hS _ (Bel.refl w5).drew | exact hS _ hB6 | exact hS _ (hB6.then_ hb7))
          clear hK K hHr10_1
          try simp only [Act.put, List.getElem_toArray, List.getElem_cons_succ, List.getElem_cons_zero, List.setIfInBounds_toArray, List.set_cons_zero, List.set_cons_succ]
          refine wpAnyH_take (i := 15) (oi := _) (v := ?vr10_1_15) rfl (by kernel_rfl) (by kernel_rfl) (by kernel_rfl) ?hqr10_1_15 (Or.inl ⟨by kernel_rfl, ?hyr10_1_15⟩) (by assumption) ?restr10_1_15
          case hqr10_1_15 => exact fun _ _ _ h => h
          case hyr10_1_15 => (intro w hSw; (try dsimp only at hSw); go_simp; try with_reducible rfl)
          try simp only [Act.put, List.getElem_toArray, List.getElem_cons_succ, List.getElem_cons_zero, List.setIfInBounds_toArray, List.set_cons_zero, List.set_cons_succ]
          refine wpAnyH_take (i := 16) (oi := _) (v := ?vr10_1_16) rfl (by kernel_rfl) (by kernel_rfl) (by kernel_rfl) ?hqr10_1_16 (Or.inl ⟨by kernel_rfl, ?hyr10_1_16⟩) (by assumption) ?restr10_1_16
          case hqr10_1_16 => exact fun _ _ _ h => h
          case hyr10_1_16 => (intro w hSw; (try dsimp only at hSw); go_simp; try with_reducible rfl)
          try simp only [Act.put, List.getElem_toArray, List.getElem_cons_succ, List.getElem_cons_zero, List.setIfInBounds_toArray, List.set_cons_zero, List.set_cons_succ]
          refine wpAnyH_take (i := 17) (oi := _) (v := ?vr10_1_17) rfl (by kernel_rfl) (by kernel_rfl) (by kernel_rfl) ?hqr10_1_17 (Or.inl ⟨by kernel_rfl, ?hyr10_1_17⟩) (by assumption) ?restr10_1_17
          case hqr10_1_17 => exact fun _ _ _ h => h
          case hyr10_1_17 => (intro w hSw; (try dsimp only at hSw); go_simp; try with_reducible rfl)
          try simp only [Act.put, List.getElem_toArray, List.getElem_cons_succ, List.getElem_cons_zero, List.setIfInBounds_toArray, List.set_cons_zero, List.set_cons_succ]
          refine wpAnyH_take (i := 18) (oi := _) (v := ?vr10_1_18) rfl (by kernel_rfl) (by kernel_rfl) (by kernel_rfl) ?hqr10_1_18 (Or.inl ⟨by kernel_rfl, ?hyr10_1_18⟩) (by assumption) ?restr10_1_18
          case hqr10_1_18 => exact fun _ _ _ h => h
          case hyr10_1_18 => (intro w hSw; (try dsimp only at hSw); go_simp; try with_reducible rfl)
          try simp only [Act.put, List.getElem_toArray, List.getElem_cons_succ, List.getElem_cons_zero, List.setIfInBounds_toArray, List.set_cons_zero, List.set_cons_succ]
          refine wpAnyH_take (i := 19) (oi := _) (v := ?vr10_1_19) rfl (by kernel_rfl) (by kernel_rfl) (by kernel_rfl) ?hqr10_1_19 (Or.inl ⟨by kernel_rfl, ?hyr10_1_19⟩) (by assumption) ?restr10_1_19
          case hqr10_1_19 => exact fun _ _ _ h => h
          case hyr10_1_19 => (intro w hSw; (try dsimp only at hSw); go_simp; try with_reducible rfl)
          try simp only [Act.put, List.getElem_toArray, List.getElem_cons_succ, List.getElem_cons_zero, List.setIfInBounds_toArray, List.set_cons_zero, List.set_cons_succ]
          refine wpAnyH_take (i := 20) (oi := _) (v := ?vr10_1_20) rfl (by kernel_rfl) (by kernel_rfl) (by kernel_rfl) ?hqr10_1_20 (Or.inl ⟨by kernel_rfl, ?hyr10_1_20⟩) (by assumption) ?restr10_1_20
          case hqr10_1_20 => exact fun _ _ _ h => h
          case hyr10_1_20 => (intro w hSw; (try dsimp only at hSw); go_simp; try with_reducible rfl)
          try simp only [Act.put, List.getElem_toArray, List.getElem_cons_succ, List.getElem_cons_zero, List.setIfInBounds_toArray, List.set_cons_zero, List.set_cons_succ]
          refine wpAnyH_done (by kernel_rfl) ?_ _
          refine NoPanic.normal ?_
          go_wp2
          go_ret
          exact ⟨by rw [hR2]; rfl, hB5.then_ (by assumption : _ ∧ _ ∧ _ ∧ Bel w5 _).2.2.2⟩
        · have hub : decide (2147483647 < n) = false := by simp; omega
          have hR2 : R = 0 := by rw [HR1.out, if_pos (by omega)]
          refine wp_region_noPanic ?_
          refine wp_region_held_drew (S := (fun V : World => V.cell? ⟨w.heap.size, 2, none⟩ = some (.int .i64 4) ∧ V.cell? ⟨w.heap.size + 1, 1, none⟩ = some (.int .i64 n) ∧ V.cell? ⟨w.heap.size + 1, 2, none⟩ = some (.int .u64 u) ∧ Bel w5 V)) (by kernel_rfl) ?_ (fun hHr11_0 => ?_)
          · (try dsimp only); (first | assumption | exact hS _ (Bel.refl w5).drew | exact hS _ hB6 | exact hS _ (hB6.then_ hb7))
          refine wpAnyH_take (i := 0) (oi := _) (v := ?vr11_1_0) rfl (by kernel_rfl) (by kernel_rfl) (by kernel_rfl) ?hqr11_1_0 (Or.inl ⟨by kernel_rfl, ?hyr11_1_0⟩) (by assumption) ?restr11_1_0
          case hqr11_1_0 => exact fun _ _ _ h => h
          case hyr11_1_0 => (intro w hSw; (try dsimp only at hSw); go_simp; try with_reducible rfl)
          try simp only [Act.put, List.getElem_toArray, List.getElem_cons_succ, List.getElem_cons_zero, List.setIfInBounds_toArray, List.set_cons_zero, List.set_cons_succ]
          refine wpAnyH_take (i := 1) (oi := _) (v := ?vr11_1_1) rfl (by kernel_rfl) (by kernel_rfl) (by kernel_rfl) ?hqr11_1_1 (Or.inl ⟨by kernel_rfl, ?hyr11_1_1⟩) (by assumption) ?restr11_1_1
          case hqr11_1_1 => exact fun _ _ _ h => h
          case hyr11_1_1 => (intro w hSw; (try dsimp only at hSw); go_simp; try with_reducible rfl)
          try simp only [Act.put, List.getElem_toArray, List.getElem_cons_succ, List.getElem_cons_zero, List.setIfInBounds_toArray, List.set_cons_zero, List.set_cons_succ]
          refine wpAnyH_take (i := 2) (oi := _) (v := ?vr11_1_2) rfl (by kernel_rfl) (by kernel_rfl) (by kernel_rfl) ?hqr11_1_2 (Or.inl ⟨by kernel_rfl, ?hyr11_1_2⟩) (by assumption) ?restr11_1_2
          case hqr11_1_2 => exact fun _ _ _ h => h
          case hyr11_1_2 => (intro w hSw; (try dsimp only at hSw); go_simp; try with_reducible rfl)
          try simp only [Act.put, List.getElem_toArray, List.getElem_cons_succ, List.getElem_cons_zero, List.setIfInBounds_toArray, List.set_cons_zero, List.set_cons_succ]
          refine wpAnyH_take (i := 3) (oi := _) (v := ?vr11_1_3) rfl (by kernel_rfl) (by kernel_rfl) (by kernel_rfl) ?hqr11_1_3 (Or.inl ⟨by kernel_rfl, ?hyr11_1_3⟩) (by assumption) ?restr11_1_3
          case hqr11_1_3 => exact fun _ _ _ h => h
          case hyr11_1_3 => (intro w hSw; (try dsimp only at hSw); go_simp; try with_reducible rfl)
          try simp only [Act.put, List.getElem_toArray, List.getElem_cons_succ, List.getElem_cons_zero, List.setIfInBounds_toArray, List.set_cons_zero, List.set_cons_succ]
          refine wpAnyH_take (i := 4) (oi := _) (v := ?vr11_1_4) rfl (by kernel_rfl) (by kernel_rfl) (by kernel_rfl) ?hqr11_1_4 (Or.inl ⟨by kernel_rfl, ?hyr11_1_4⟩) (by assumption) ?restr11_1_4
          case hqr11_1_4 => exact fun _ _ _ h => h
          case hyr11_1_4 => (intro w hSw; (try dsimp only at hSw); go_simp; try with_reducible rfl)
          try simp only [Act.put, List.getElem_toArray, List.getElem_cons_succ, List.getElem_cons_zero, List.setIfInBounds_toArray, List.set_cons_zero, List.set_cons_succ]
          refine wpAnyH_take (i := 5) (oi := _) (v := ?vr11_1_5) rfl (by kernel_rfl) (by kernel_rfl) (by kernel_rfl) ?hqr11_1_5 (Or.inl ⟨by kernel_rfl, ?hyr11_1_5⟩) (by assumption) ?restr11_1_5
          case hqr11_1_5 => exact fun _ _ _ h => h
          case hyr11_1_5 => (intro w hSw; (try dsimp only at hSw); go_simp; try with_reducible rfl)
          try simp only [Act.put, List.getElem_toArray, List.getElem_cons_succ, List.getElem_cons_zero, List.setIfInBounds_toArray, List.set_cons_zero, List.set_cons_succ]
          refine wpAnyH_take (i := 6) (oi := _) (v := ?vr11_1_6) rfl (by kernel_rfl) (by kernel_rfl) (by kernel_rfl) ?hqr11_1_6 (Or.inl ⟨by kernel_rfl, ?hyr11_1_6⟩) (by assumption) ?restr11_1_6
          case hqr11_1_6 => exact fun _ _ _ h => h
          case hyr11_1_6 => (intro w hSw; (try dsimp only at hSw); go_simp; try with_reducible rfl)
          try simp only [Act.put, List.getElem_toArray, List.getElem_cons_succ, List.getElem_cons_zero, List.setIfInBounds_toArray, List.set_cons_zero, List.set_cons_succ]
          refine wpAnyH_ready (rs := [7]) (by kernel_rfl) (by simp) ?_
          refine AllReadyH.cons (o := _) rfl (fun K hK => ?_) AllReadyH.nil
          go_simp
          (go_at_call 58; refine (HLE.out _).mono ?_; rintro e w6 ⟨rfl, hb6⟩; have hB6 : Bel w5 w6 := Bel.then_ (Bel.refl w5).drew hb6)
          try (go_wp2_with fail)
          refine hK.out _ _ ?_ (fun hHr11_1 => ?_)
          · (try dsimp only); (first | assumption | exact hS _ (Bel.refl w5).drew | exact hS _ hB6 | exact hS _ (hB6.then_ hb7))
          clear hK K hHr11_0
          try simp only [Act.put, List.getElem_toArray, List.getElem_cons_succ, List.getElem_cons_zero, List.setIfInBounds_toArray, List.set_cons_zero, List.set_cons_succ]
          refine wpAnyH_take (i := 8) (oi := _) (v := ?vr11_1_8) rfl (by kernel_rfl) (by kernel_rfl) (by kernel_rfl) ?hqr11_1_8 (Or.inl ⟨by kernel_rfl, ?hyr11_1_8⟩) (by assumption) ?restr11_1_8
          case hqr11_1_8 => exact fun _ _ _ h => h
          case hyr11_1_8 => (intro w hSw; (try dsimp only at hSw); go_simp; try with_reducible rfl)
          try simp only [Act.put, List.getElem_toArray, List.getElem_cons_succ, List.getElem_cons_zero, List.setIfInBounds_toArray, List.set_cons_zero, List.set_cons_succ]
          refine wpAnyH_take (i := 9) (oi := _) (v := ?vr11_1_9) rfl (by kernel_rfl) (by kernel_rfl) (by kernel_rfl) ?hqr11_1_9 (Or.inl ⟨by kernel_rfl, ?hyr11_1_9⟩) (by assumption) ?restr11_1_9
          case hqr11_1_9 => exact fun _ _ _ h => h
          case hyr11_1_9 => (intro w hSw; (try dsimp only at hSw); go_simp; try with_reducible rfl)
          try simp only [Act.put, List.getElem_toArray, List.getElem_cons_succ, List.getElem_cons_zero, List.setIfInBounds_toArray, List.set_cons_zero, List.set_cons_succ]
          refine wpAnyH_take (i := 10) (oi := _) (v := ?vr11_1_10) rfl (by kernel_rfl) (by kernel_rfl) (by kernel_rfl) ?hqr11_1_10 (Or.inl ⟨by kernel_rfl, ?hyr11_1_10⟩) (by assumption) ?restr11_1_10
          case hqr11_1_10 => exact fun _ _ _ h => h
          case hyr11_1_10 => (intro w hSw; (try dsimp only at hSw); go_simp; try with_reducible rfl)
          try simp only [Act.put, List.getElem_toArray, List.getElem_cons_succ, List.getElem_cons_zero, List.setIfInBounds_toArray, List.set_cons_zero, List.set_cons_succ]
          refine wpAnyH_take (i := 11) (oi := _) (v := ?vr11_1_11) rfl (by kernel_rfl) (by kernel_rfl) (by kernel_rfl) ?hqr11_1_11 (Or.inl ⟨by kernel_rfl, ?hyr11_1_11⟩) (by assumption) ?restr11_1_11
          case hqr11_1_11 => exact fun _ _ _ h => h
          case hyr11_1_11 => (intro w hSw; (try dsimp only at hSw); go_simp; try with_reducible rfl)
          try simp only [Act.put, List.getElem_toArray, List.getElem_cons_succ, List.getElem_cons_zero, List.setIfInBounds_toArray, List.set_cons_zero, List.set_cons_succ]
          refine wpAnyH_take (i := 12) (oi := _) (v := ?vr11_1_12) rfl (by kernel_rfl) (by kernel_rfl) (by kernel_rfl) ?hqr11_1_12 (Or.inl ⟨by kernel_rfl, ?hyr11_1_12⟩) (by assumption) ?restr11_1_12
          case hqr11_1_12 => exact fun _ _ _ h => h
          case hyr11_1_12 => (intro w hSw; (try dsimp only at hSw); go_simp; try with_reducible rfl)
          try simp only [Act.put, List.getElem_toArray, List.getElem_cons_succ, List.getElem_cons_zero, List.setIfInBounds_toArray, List.set_cons_zero, List.set_cons_succ]
          refine wpAnyH_take (i := 13) (oi := _) (v := ?vr11_1_13) rfl (by kernel_rfl) (by kernel_rfl) (by kernel_rfl) ?hqr11_1_13 (Or.inl ⟨by kernel_rfl, ?hyr11_1_13⟩) (by assumption) ?restr11_1_13
          case hqr11_1_13 => exact fun _ _ _ h => h
          case hyr11_1_13 => (intro w hSw; (try dsimp only at hSw); go_simp; try with_reducible rfl)
          try simp only [Act.put, List.getElem_toArray, List.getElem_cons_succ, List.getElem_cons_zero, List.setIfInBounds_toArray, List.set_cons_zero, List.set_cons_succ]
          refine wpAnyH_ready (rs := [14]) (by kernel_rfl) (by simp) ?_
          refine AllReadyH.cons (o := _) rfl (fun K hK => ?_) AllReadyH.nil
          go_simp
          (go_at_call 58; refine (HLE.out _).mono ?_; rintro e w7 ⟨rfl, hb7⟩)
          try (go_wp2_with fail)
          refine hK.out _ _ ?_ (fun hHr11_2 => ?_)
          · (try dsimp only); (first | assumption | exact hS _ (Bel.refl w5).drew | exact hS _ hB6 | exact hS _ (hB6.then_ hb7))
          clear hK K hHr11_1
          try simp only [Act.put, List.getElem_toArray, List.getElem_cons_succ, List.getElem_cons_zero, List.setIfInBounds_toArray, List.set_cons_zero, List.set_cons_succ]
          refine wpAnyH_take (i := 15) (oi := _) (v := ?vr11_1_15) rfl (by kernel_rfl) (by kernel_rfl) (by kernel_rfl) ?hqr11_1_15 (Or.inl ⟨by kernel_rfl, ?hyr11_1_15⟩) (by assumption) ?restr11_1_15
          case hqr11_1_15 => exact fun _ _ _ h => h
          case hyr11_1_15 => (intro w hSw; (try dsimp only at hSw); go_simp; try with_reducible rfl)
          try simp only [Act.put, List.getElem_toArray, List.getElem_cons_succ, List.getElem_cons_zero, List.setIfInBounds_toArray, List.set_cons_zero, List.set_cons_succ]
          refine wpAnyH_take (i := 16) (oi := _) (v := ?vr11_1_16) rfl (by kernel_rfl) (by kernel_rfl) (by kernel_rfl) ?hqr11_1_16 (Or.inl ⟨by kernel_rfl, ?hyr11_1_16⟩) (by assumption) ?restr11_1_16
          case hqr11_1_16 => exact fun _ _ _ h => h
          case hyr11_1_16 => (intro w hSw; (try dsimp only at hSw); go_simp; try with_reducible rfl)
          try simp only [Act.put, List.getElem_toArray, List.getElem_cons_succ, List.getElem_cons_zero, List.setIfInBounds_toArray, List.set_cons_zero, List.set_cons_succ]
          refine wpAnyH_take (i := 17) (oi := _) (v := ?vr11_1_17) rfl (by kernel_rfl) (by kernel_rfl) (by kernel_rfl) ?hqr11_1_17 (Or.inl ⟨by kernel_rfl, ?hyr11_1_17⟩) (by assumption) ?restr11_1_17
          case hqr11_1_17 => exact fun _ _ _ h => h
          case hyr11_1_17 => (intro w hSw; (try dsimp only at hSw); go_simp; try with_reducible rfl)
          try simp only [Act.put, List.getElem_toArray, List.getElem_cons_succ, List.getElem_cons_zero, List.setIfInBounds_toArray, List.set_cons_zero, List.set_cons_succ]
          refine wpAnyH_take (i := 18) (oi := _) (v := ?vr11_1_18) rfl (by kernel_rfl) (by kernel_rfl) (by kernel_rfl) ?hqr11_1_18 (Or.inl ⟨by kernel_rfl, ?hyr11_1_18⟩) (by assumption) ?restr11_1_18
          case hqr11_1_18 => exact fun _ _ _ h => h
          case hyr11_1_18 => (intro w hSw; (try dsimp only at hSw); go_simp; try with_reducible rfl)
          try simp only [Act.put, List.getElem_toArray, List.getElem_cons_succ, List.getElem_cons_zero, List.setIfInBounds_toArray, List.set_cons_zero, List.set_cons_succ]
          refine wpAnyH_take (i := 19) (oi := _) (v := ?vr11_1_19) rfl (by kernel_rfl) (by kernel_rfl) (by kernel_rfl) ?hqr11_1_19 (Or.inl ⟨by kernel_rfl, ?hyr11_1_19⟩) (by assumption) ?restr11_1_19
          case hqr11_1_19 => exact fun _ _ _ h => h
          case hyr11_1_19 => (intro w hSw; (try dsimp only at hSw); go_simp; try with_reducible rfl)
          try simp only [Act.put, List.getElem_toArray, List.getElem_cons_succ, List.getElem_cons_zero, List.setIfInBounds_toArray, List.set_cons_zero, List.set_cons_succ]
          refine wpAnyH_take (i := 20) (oi := _) (v := ?vr11_1_20) rfl (by kernel_rfl) (by kernel_rfl) (by kernel_rfl) ?hqr11_1_20 (Or.inl ⟨by kernel_rfl, ?hyr11_1_20⟩) (by assumption) ?restr11_1_20
          case hqr11_1_20 => exact fun _ _ _ h => h
          case hyr11_1_20 => (intro w hSw; (try dsimp only at hSw); go_simp; try with_reducible rfl)
          try simp only [Act.put, List.getElem_toArray, List.getElem_cons_succ, List.getElem_cons_zero, List.setIfInBounds_toArray, List.set_cons_zero, List.set_cons_succ]
          refine wpAnyH_done (by kernel_rfl) ?_ _
          refine NoPanic.normal ?_
          have hB7 := (by assumption : _ ∧ _ ∧ _ ∧ Bel w5 _).2.2.2
          go_wp2
          refine wp_region_noPanic ?_
          refine wp_region_held_drew (S := (fun V : World => Bel w5 V)) (by kernel_rfl) ?_ (fun hHr12_0 => ?_)
          · (try dsimp only); (first | assumption | exact hB7.drew)
          refine wpAnyH_take (i := 0) (oi := _) (v := ?vr12_1_0) rfl (by kernel_rfl) (by kernel_rfl) (by kernel_rfl) ?hqr12_1_0 (Or.inl ⟨by kernel_rfl, ?hyr12_1_0⟩) (by assumption) ?restr12_1_0
          case hqr12_1_0 => exact fun _ _ _ h => h
          case hyr12_1_0 => (intro w hSw; (try dsimp only at hSw); go_simp; try with_reducible rfl)
          try simp only [Act.put, List.getElem_toArray, List.getElem_cons_succ, List.getElem_cons_zero, List.setIfInBounds_toArray, List.set_cons_zero, List.set_cons_succ]
          refine wpAnyH_take (i := 1) (oi := _) (v := ?vr12_1_1) rfl (by kernel_rfl) (by kernel_rfl) (by kernel_rfl) ?hqr12_1_1 (Or.inl ⟨by kernel_rfl, ?hyr12_1_1⟩) (by assumption) ?restr12_1_1
          case hqr12_1_1 => exact fun _ _ _ h => h
          case hyr12_1_1 => (intro w hSw; (try dsimp only at hSw); go_simp; try with_reducible rfl)
          try simp only [Act.put, List.getElem_toArray, List.getElem_cons_succ, List.getElem_cons_zero, List.setIfInBounds_toArray, List.set_cons_zero, List.set_cons_succ]
          refine wpAnyH_take (i := 2) (oi := _) (v := ?vr12_1_2) rfl (by kernel_rfl) (by kernel_rfl) (by kernel_rfl) ?hqr12_1_2 (Or.inl ⟨by kernel_rfl, ?hyr12_1_2⟩) (by assumption) ?restr12_1_2
          case hqr12_1_2 => exact fun _ _ _ h => h
          case hyr12_1_2 => (intro w hSw; (try dsimp only at hSw); go_simp; try with_reducible rfl)
          try simp only [Act.put, List.getElem_toArray, List.getElem_cons_succ, List.getElem_cons_zero, List.setIfInBounds_toArray, List.set_cons_zero, List.set_cons_succ]
          refine wpAnyH_take (i := 3) (oi := _) (v := undef) rfl (by kernel_rfl) (by kernel_rfl) (by kernel_rfl) (fun _ _ _ h => h) (Or.inr ⟨by kernel_rfl, rfl⟩) (by assumption) ?restr12_1_3
          try simp only [Act.put, List.getElem_toArray, List.getElem_cons_succ, List.getElem_cons_zero, List.setIfInBounds_toArray, List.set_cons_zero, List.set_cons_succ]
          refine wpAnyH_take (i := 4) (oi := _) (v := undef) rfl (by kernel_rfl) (by kernel_rfl) (by kernel_rfl) (fun _ _ _ h => h) (Or.inr ⟨by kernel_rfl, rfl⟩) (by assumption) ?restr12_1_4
          try simp only [Act.put, List.getElem_toArray, List.getElem_cons_succ, List.getElem_cons_zero, List.setIfInBounds_toArray, List.set_cons_zero, List.set_cons_succ]
          refine wpAnyH_take (i := 5) (oi := _) (v := undef) rfl (by kernel_rfl) (by kernel_rfl) (by kernel_rfl) (fun _ _ _ h => h) (Or.inr ⟨by kernel_rfl, rfl⟩) (by assumption) ?restr12_1_5
          try simp only [Act.put, List.getElem_toArray, List.getElem_cons_succ, List.getElem_cons_zero, List.setIfInBounds_toArray, List.set_cons_zero, List.set_cons_succ]
          refine wpAnyH_take (i := 6) (oi := _) (v := undef) rfl (by kernel_rfl) (by kernel_rfl) (by kernel_rfl) (fun _ _ _ h => h) (Or.inr ⟨by kernel_rfl, rfl⟩) (by assumption) ?restr12_1_6
          try simp only [Act.put, List.getElem_toArray, List.getElem_cons_succ, List.getElem_cons_zero, List.setIfInBounds_toArray, List.set_cons_zero, List.set_cons_succ]
          refine wpAnyH_take (i := 7) (oi := _) (v := undef) rfl (by kernel_rfl) (by kernel_rfl) (by kernel_rfl) (fun _ _ _ h => h) (Or.inr ⟨by kernel_rfl, rfl⟩) (by assumption) ?restr12_1_7
          try simp only [Act.put, List.getElem_toArray, List.getElem_cons_succ, List.getElem_cons_zero, List.setIfInBounds_toArray, List.set_cons_zero, List.set_cons_succ]
          refine wpAnyH_take (i := 8) (oi := _) (v := undef) rfl (by kernel_rfl) (by kernel_rfl) (by kernel_rfl) (fun _ _ _ h => h) (Or.inr ⟨by kernel_rfl, rfl⟩) (by assumption) ?restr12_1_8
          try simp only [Act.put, List.getElem_toArray, List.getElem_cons_succ, List.getElem_cons_zero, List.setIfInBounds_toArray, List.set_cons_zero, List.set_cons_succ]
          refine wpAnyH_take (i := 9) (oi := _) (v := ?vr12_1_9) rfl (by kernel_rfl) (by kernel_rfl) (by kernel_rfl) ?hqr12_1_9 (Or.inl ⟨by kernel_rfl, ?hyr12_1_9⟩) (by assumption) ?restr12_1_9
          case hqr12_1_9 => exact fun _ _ _ h => h
          case hyr12_1_9 => (intro w hSw; (try dsimp only at hSw); go_simp; try with_reducible rfl)
          try simp only [Act.put, List.getElem_toArray, List.getElem_cons_succ, List.getElem_cons_zero, List.setIfInBounds_toArray, List.set_cons_zero, List.set_cons_succ]
          refine wpAnyH_take (i := 10) (oi := _) (v := ?vr12_1_10) rfl (by kernel_rfl) (by kernel_rfl) (by kernel_rfl) ?hqr12_1_10 (Or.inl ⟨by kernel_rfl, ?hyr12_1_10⟩) (by assumption) ?restr12_1_10
          case hqr12_1_10 => exact fun _ _ _ h => h
          case hyr12_1_10 => (intro w hSw; (try dsimp only at hSw); go_simp; try with_reducible rfl)
          try simp only [Act.put, List.getElem_toArray, List.getElem_cons_succ, List.getElem_cons_zero, List.setIfInBounds_toArray, List.set_cons_zero, List.set_cons_succ]
          refine wpAnyH_done (by kernel_rfl) ?_ _
          refine NoPanic.normal ?_
          go_wp2
          go_ret
          exact ⟨by rw [hR2]; rfl, hB5.then_ hB7.drew⟩
    · simp only [leastI] at HLE HR1
      have v1 : IntKind.i64.wrap (-9223372036854775807) = -9223372036854775807 := by decide
      have v2 : IntKind.i64.wrap 9223372036854775807 = 9223372036854775807 := by decide
      have v3 : IntKind.i64.wrap (-9223372036854775808 + 1) = -9223372036854775807 := by decide
      have v4 : IntKind.i64.wrap (-(-9223372036854775807)) = 9223372036854775807 := by decide
      go_enter Tryz.func24, Tryz.ntmps24
      go_wp2_with (first | (go_at_call 56; refine (HCO.out _).mono ?_; rintro e w4 ⟨rfl, hb4⟩; obtain ⟨⟨a0, a1, a2, a3, c0, c1, c2, c3⟩, hB4⟩ := HCL.out _ hb4) | (go_at_call 57; refine (HCH.out _).mono ?_; rintro e w5 ⟨rfl, hb5⟩; obtain ⟨⟨d0, d1, d2, d3, e0, e1, e2, e3⟩, hB5⟩ := HCL.out _ (hb4.then_ hb5)))
      have hS : ∀ V, Bel w5 V → (V.cell? ⟨w.heap.size, 2, none⟩ = some (.int .i64 8) ∧ V.cell? ⟨w.heap.size + 1, 1, none⟩ = some (.int .i64 n) ∧ V.cell? ⟨w.heap.size + 1, 2, none⟩ = some (.int .u64 u) ∧ Bel w5 V) := fun V h => ⟨h.c d2, h.c e1, h.c e2, h⟩
      by_cases hl : n < -9223372036854775808
      · have hR2 : R = 133 := by rw [HR1.out, if_neg (by omega)]
        refine wp_region_noPanic ?_
        refine wp_region_held_drew (S := (fun V : World => V.cell? ⟨w.heap.size, 2, none⟩ = some (.int .i64 8) ∧ V.cell? ⟨w.heap.size + 1, 1, none⟩ = some (.int .i64 n) ∧ V.cell? ⟨w.heap.size + 1, 2, none⟩ = some (.int .u64 u) ∧ Bel w5 V)) (by kernel_rfl) ?_ (fun hHr13_0 => ?_)
        · (try dsimp only); (first | assumption | exact hS _ (Bel.refl w5).drew | exact hS _ hB6 | exact hS _ (hB6.then_ hb7))
        refine wpAnyH_take (i := 0) (oi := _) (v := ?vr13_1_0) rfl (by kernel_rfl) (by kernel_rfl) (by kernel_rfl) ?hqr13_1_0 (Or.inl ⟨by kernel_rfl, ?hyr13_1_0⟩) (by assumption) ?restr13_1_0
        case hqr13_1_0 => exact fun _ _ _ h => h
        case hyr13_1_0 => (intro w hSw; (try dsimp only at hSw); go_simp; try with_reducible rfl)
        try simp only [Act.put, List.getElem_toArray, List.getElem_cons_succ, List.getElem_cons_zero, List.setIfInBounds_toArray, List.set_cons_zero, List.set_cons_succ]
        refine wpAnyH_take (i := 1) (oi := _) (v := ?vr13_1_1) rfl (by kernel_rfl) (by kernel_rfl) (by kernel_rfl) ?hqr13_1_1 (Or.inl ⟨by kernel_rfl, ?hyr13_1_1⟩) (by assumption) ?restr13_1_1
        case hqr13_1_1 => exact fun _ _ _ h => h
        case hyr13_1_1 => (intro w hSw; (try dsimp only at hSw); go_simp; try with_reducible rfl)
        try simp only [Act.put, List.getElem_toArray, List.getElem_cons_succ, List.getElem_cons_zero, List.setIfInBounds_toArray, List.set_cons_zero, List.set_cons_succ]
        refine wpAnyH_take (i := 2) (oi := _) (v := ?vr13_1_2) rfl (by kernel_rfl) (by kernel_rfl) (by kernel_rfl) ?hqr13_1_2 (Or.inl ⟨by kernel_rfl, ?hyr13_1_2⟩) (by assumption) ?restr13_1_2
        case hqr13_1_2 => exact fun _ _ _ h => h
        case hyr13_1_2 => (intro w hSw; (try dsimp only at hSw); go_simp; try with_reducible rfl)
        try simp only [Act.put, List.getElem_toArray, List.getElem_cons_succ, List.getElem_cons_zero, List.setIfInBounds_toArray, List.set_cons_zero, List.set_cons_succ]
        refine wpAnyH_take (i := 3) (oi := _) (v := ?vr13_1_3) rfl (by kernel_rfl) (by kernel_rfl) (by kernel_rfl) ?hqr13_1_3 (Or.inl ⟨by kernel_rfl, ?hyr13_1_3⟩) (by assumption) ?restr13_1_3
        case hqr13_1_3 => exact fun _ _ _ h => h
        case hyr13_1_3 => (intro w hSw; (try dsimp only at hSw); go_simp; try with_reducible rfl)
        try simp only [Act.put, List.getElem_toArray, List.getElem_cons_succ, List.getElem_cons_zero, List.setIfInBounds_toArray, List.set_cons_zero, List.set_cons_succ]
        refine wpAnyH_take (i := 4) (oi := _) (v := ?vr13_1_4) rfl (by kernel_rfl) (by kernel_rfl) (by kernel_rfl) ?hqr13_1_4 (Or.inl ⟨by kernel_rfl, ?hyr13_1_4⟩) (by assumption) ?restr13_1_4
        case hqr13_1_4 => exact fun _ _ _ h => h
        case hyr13_1_4 => (intro w hSw; (try dsimp only at hSw); go_simp; try with_reducible rfl)
        try simp only [Act.put, List.getElem_toArray, List.getElem_cons_succ, List.getElem_cons_zero, List.setIfInBounds_toArray, List.set_cons_zero, List.set_cons_succ]
        refine wpAnyH_take (i := 5) (oi := _) (v := ?vr13_1_5) rfl (by kernel_rfl) (by kernel_rfl) (by kernel_rfl) ?hqr13_1_5 (Or.inl ⟨by kernel_rfl, ?hyr13_1_5⟩) (by assumption) ?restr13_1_5
        case hqr13_1_5 => exact fun _ _ _ h => h
        case hyr13_1_5 => (intro w hSw; (try dsimp only at hSw); go_simp; try with_reducible rfl)
        try simp only [Act.put, List.getElem_toArray, List.getElem_cons_succ, List.getElem_cons_zero, List.setIfInBounds_toArray, List.set_cons_zero, List.set_cons_succ]
        refine wpAnyH_take (i := 6) (oi := _) (v := ?vr13_1_6) rfl (by kernel_rfl) (by kernel_rfl) (by kernel_rfl) ?hqr13_1_6 (Or.inl ⟨by kernel_rfl, ?hyr13_1_6⟩) (by assumption) ?restr13_1_6
        case hqr13_1_6 => exact fun _ _ _ h => h
        case hyr13_1_6 => (intro w hSw; (try dsimp only at hSw); go_simp; try with_reducible rfl)
        try simp only [Act.put, List.getElem_toArray, List.getElem_cons_succ, List.getElem_cons_zero, List.setIfInBounds_toArray, List.set_cons_zero, List.set_cons_succ]
        refine wpAnyH_ready (rs := [7]) (by kernel_rfl) (by simp) ?_
        refine AllReadyH.cons (o := _) rfl (fun K hK => ?_) AllReadyH.nil
        go_simp
        (go_at_call 58; refine (HLE.out _).mono ?_; rintro e w6 ⟨rfl, hb6⟩; have hB6 : Bel w5 w6 := Bel.then_ (Bel.refl w5).drew hb6)
        try (go_wp2_with fail)
        refine hK.out _ _ ?_ (fun hHr13_1 => ?_)
        · (try dsimp only); (first | assumption | exact hS _ (Bel.refl w5).drew | exact hS _ hB6 | exact hS _ (hB6.then_ hb7))
        clear hK K hHr13_0
        try simp only [Act.put, List.getElem_toArray, List.getElem_cons_succ, List.getElem_cons_zero, List.setIfInBounds_toArray, List.set_cons_zero, List.set_cons_succ]
        refine wpAnyH_take (i := 8) (oi := _) (v := ?vr13_1_8) rfl (by kernel_rfl) (by kernel_rfl) (by kernel_rfl) ?hqr13_1_8 (Or.inl ⟨by kernel_rfl, ?hyr13_1_8⟩) (by assumption) ?restr13_1_8
        case hqr13_1_8 => exact fun _ _ _ h => h
        case hyr13_1_8 => (intro w hSw; (try dsimp only at hSw); go_simp; try with_reducible rfl)
        try simp only [Act.put, List.getElem_toArray, List.getElem_cons_succ, List.getElem_cons_zero, List.setIfInBounds_toArray, List.set_cons_zero, List.set_cons_succ]
        refine wpAnyH_take (i := 9) (oi := _) (v := ?vr13_1_9) rfl (by kernel_rfl) (by kernel_rfl) (by kernel_rfl) ?hqr13_1_9 (Or.inl ⟨by kernel_rfl, ?hyr13_1_9⟩) (by assumption) ?restr13_1_9
        case hqr13_1_9 => exact fun _ _ _ h => h
        case hyr13_1_9 => (intro w hSw; (try dsimp only at hSw); go_simp; try with_reducible rfl)
        try simp only [Act.put, List.getElem_toArray, List.getElem_cons_succ, List.getElem_cons_zero, List.setIfInBounds_toArray, List.set_cons_zero, List.set_cons_succ]
        refine wpAnyH_take (i := 10) (oi := _) (v := undef) rfl (by kernel_rfl) (by kernel_rfl) (by kernel_rfl) (fun _ _ _ h => h) (Or.inr ⟨by kernel_rfl, rfl⟩) (by assumption) ?restr13_1_10
        try simp only [Act.put, List.getElem_toArray, List.getElem_cons_succ, List.getElem_cons_zero, List.setIfInBounds_toArray, List.set_cons_zero, List.set_cons_succ]
        refine wpAnyH_take (i := 11) (oi := _) (v := undef) rfl (by kernel_rfl) (by kernel_rfl) (by kernel_rfl) (fun _ _ _ h => h) (Or.inr ⟨by kernel_rfl, rfl⟩) (by assumption) ?restr13_1_11
        try simp only [Act.put, List.getElem_toArray, List.getElem_cons_succ, List.getElem_cons_zero, List.setIfInBounds_toArray, List.set_cons_zero, List.set_cons_succ]
        refine wpAnyH_take (i := 12) (oi := _) (v := undef) rfl (by kernel_rfl) (by kernel_rfl) (by kernel_rfl) (fun _ _ _ h => h) (Or.inr ⟨by kernel_rfl, rfl⟩) (by assumption) ?restr13_1_12
        try simp only [Act.put, List.getElem_toArray, List.getElem_cons_succ, List.getElem_cons_zero, List.setIfInBounds_toArray, List.set_cons_zero, List.set_cons_succ]
        refine wpAnyH_take (i := 13) (oi := _) (v := undef) rfl (by kernel_rfl) (by kernel_rfl) (by kernel_rfl) (fun _ _ _ h => h) (Or.inr ⟨by kernel_rfl, rfl⟩) (by assumption) ?restr13_1_13
        try simp only [Act.put, List.getElem_toArray, List.getElem_cons_succ, List.getElem_cons_zero, List.setIfInBounds_toArray, List.set_cons_zero, List.set_cons_succ]
        refine wpAnyH_take (i := 14) (oi := _) (v := undef) rfl (by kernel_rfl) (by kernel_rfl) (by kernel_rfl) (fun _ _ _ h => h) (Or.inr ⟨by kernel_rfl, rfl⟩) (by assumption) ?restr13_1_14
        try simp only [Act.put, List.getElem_toArray, List.getElem_cons_succ, List.getElem_cons_zero, List.setIfInBounds_toArray, List.set_cons_zero, List.set_cons_succ]
        refine wpAnyH_take (i := 15) (oi := _) (v := undef) rfl (by kernel_rfl) (by kernel_rfl) (by kernel_rfl) (fun _ _ _ h => h) (Or.inr ⟨by kernel_rfl, rfl⟩) (by assumption) ?restr13_1_15
        try simp only [Act.put, List.getElem_toArray, List.getElem_cons_succ, List.getElem_cons_zero, List.setIfInBounds_toArray, List.set_cons_zero, List.set_cons_succ]
        refine wpAnyH_take (i := 16) (oi := _) (v := undef) rfl (by kernel_rfl) (by kernel_rfl) (by kernel_rfl) (fun _ _ _ h => h) (Or.inr ⟨by kernel_rfl, rfl⟩) (by assumption) ?restr13_1_16
        try simp only [Act.put, List.getElem_toArray, List.getElem_cons_succ, List.getElem_cons_zero, List.setIfInBounds_toArray, List.set_cons_zero, List.set_cons_succ]
        refine wpAnyH_take (i := 17) (oi := _) (v := undef) rfl (by kernel_rfl) (by kernel_rfl) (by kernel_rfl) (fun _ _ _ h => h) (Or.inr ⟨by kernel_rfl, rfl⟩) (by assumption) ?restr13_1_17
        try simp only [Act.put, List.getElem_toArray, List.getElem_cons_succ, List.getElem_cons_zero, List.setIfInBounds_toArray, List.set_cons_zero, List.set_cons_succ]
        refine wpAnyH_take (i := 18) (oi := _) (v := ?vr13_1_18) rfl (by kernel_rfl) (by kernel_rfl) (by kernel_rfl) ?hqr13_1_18 (Or.inl ⟨by kernel_rfl, ?hyr13_1_18⟩) (by assumption) ?restr13_1_18
        case hqr13_1_18 => exact fun _ _ _ h => h
        case hyr13_1_18 => (intro w hSw; (try dsimp only at hSw); go_simp; try with_reducible rfl)
        try simp only [Act.put, List.getElem_toArray, List.getElem_cons_succ, List.getElem_cons_zero, List.setIfInBounds_toArray, List.set_cons_zero, List.set_cons_succ]
        refine wpAnyH_take (i := 19) (oi := _) (v := ?vr13_1_19) rfl (by kernel_rfl) (by kernel_rfl) (by kernel_rfl) ?hqr13_1_19 (Or.inl ⟨by kernel_rfl, ?hyr13_1_19⟩) (by assumption) ?restr13_1_19
        case hqr13_1_19 => exact fun _ _ _ h => h
        case hyr13_1_19 => (intro w hSw; (try dsimp only at hSw); go_simp; try with_reducible rfl)
        try simp only [Act.put, List.getElem_toArray, List.getElem_cons_succ, List.getElem_cons_zero, List.setIfInBounds_toArray, List.set_cons_zero, List.set_cons_succ]
        refine wpAnyH_take (i := 20) (oi := _) (v := ?vr13_1_20) rfl (by kernel_rfl) (by kernel_rfl) (by kernel_rfl) ?hqr13_1_20 (Or.inl ⟨by kernel_rfl, ?hyr13_1_20⟩) (by assumption) ?restr13_1_20
        case hqr13_1_20 => exact fun _ _ _ h => h
        case hyr13_1_20 => (intro w hSw; (try dsimp only at hSw); go_simp; try with_reducible rfl)
        try simp only [Act.put, List.getElem_toArray, List.getElem_cons_succ, List.getElem_cons_zero, List.setIfInBounds_toArray, List.set_cons_zero, List.set_cons_succ]
        refine wpAnyH_done (by kernel_rfl) ?_ _
        refine NoPanic.normal ?_
        go_wp2
        go_ret
        exact ⟨by rw [hR2]; rfl, hB5.then_ (by assumption : _ ∧ _ ∧ _ ∧ Bel w5 _).2.2.2⟩
      · have hlb : decide (n < -9223372036854775808) = false := by simp; omega
        by_cases hu : 9223372036854775807 < n
        · have hR2 : R = 133 := by rw [HR1.out, if_neg (by omega)]
          refine wp_region_noPanic ?_
          refine wp_region_held_drew (S := (fun V : World => V.cell? ⟨w.heap.size, 2, none⟩ = some (.int .i64 8) ∧ V.cell? ⟨w.heap.size + 1, 1, none⟩ = some (.int .i64 n) ∧ V.cell? ⟨w.heap.size + 1, 2, none⟩ = some (.int .u64 u) ∧ Bel w5 V)) (by kernel_rfl) ?_ (fun hHr14_0 => ?_)
          · (try dsimp only); (first | assumption | exact hS _ (Bel.refl w5).drew | exact hS _ hB6 | exact hS _ (hB6.then_ hb7))
          refine wpAnyH_take (i := 0) (oi := _) (v := ?vr14_1_0) rfl (by kernel_rfl) (by kernel_rfl) (by kernel_rfl) ?hqr14_1_0 (Or.inl ⟨by kernel_rfl, ?hyr14_1_0⟩) (by assumption) ?restr14_1_0
          case hqr14_1_0 => exact fun _ _ _ h => h
          case hyr14_1_0 => (intro w hSw; (try dsimp only at hSw); go_simp; try with_reducible rfl)
          try simp only [Act.put, List.getElem_toArray, List.getElem_cons_succ, List.getElem_cons_zero, List.setIfInBounds_toArray, List.set_cons_zero, List.set_cons_succ]
          refine wpAnyH_take (i := 1) (oi := _) (v := ?vr14_1_1) rfl (by kernel_rfl) (by kernel_rfl) (by kernel_rfl) ?hqr14_1_1 (Or.inl ⟨by kernel_rfl, ?hyr14_1_1⟩) (by assumption) ?restr14_1_1
          case hqr14_1_1 => exact fun _ _ _ h => h
          case hyr14_1_1 => (intro w hSw; (try dsimp only at hSw); go_simp; try with_reducible rfl)
          try simp only [Act.put, List.getElem_toArray, List.getElem_cons_succ, List.getElem_cons_zero, List.setIfInBounds_toArray, List.set_cons_zero, List.set_cons_succ]
          refine wpAnyH_take (i := 2) (oi := _) (v := ?vr14_1_2) rfl (by kernel_rfl) (by kernel_rfl) (by kernel_rfl) ?hqr14_1_2 (Or.inl ⟨by kernel_rfl, ?hyr14_1_2⟩) (by assumption) ?restr14_1_2
          case hqr14_1_2 => exact fun _ _ _ h => h
          case hyr14_1_2 => (intro w hSw; (try dsimp only at hSw); go_simp; try with_reducible rfl)
          try simp only [Act.put, List.getElem_toArray, List.getElem_cons_succ, List.getElem_cons_zero, List.setIfInBounds_toArray, List.set_cons_zero, List.set_cons_succ]
          refine wpAnyH_take (i := 3) (oi := _) (v := ?vr14_1_3) rfl (by kernel_rfl) (by kernel_rfl) (by kernel_rfl) ?hqr14_1_3 (Or.inl ⟨by kernel_rfl, ?hyr14_1_3⟩) (by assumption) ?restr14_1_3
          case hqr14_1_3 => exact fun _ _ _ h => h
          case hyr14_1_3 => (intro w hSw; (try dsimp only at hSw); go_simp; try with_reducible rfl)
          try simp only [Act.put, List.getElem_toArray, List.getElem_cons_succ, List.getElem_cons_zero, List.setIfInBounds_toArray, List.set_cons_zero, List.set_cons_succ]
          refine wpAnyH_take (i := 4) (oi := _) (v := ?vr14_1_4) rfl (by kernel_rfl) (by kernel_rfl) (by kernel_rfl) ?hqr14_1_4 (Or.inl ⟨by kernel_rfl, ?hyr14_1_4⟩) (by assumption) ?restr14_1_4
          case hqr14_1_4 => exact fun _ _ _ h => h
          case hyr14_1_4 => (intro w hSw; (try dsimp only at hSw); go_simp; try with_reducible rfl)
          try simp only [Act.put, List.getElem_toArray, List.getElem_cons_succ, List.getElem_cons_zero, List.setIfInBounds_toArray, List.set_cons_zero, List.set_cons_succ]
          refine wpAnyH_take (i := 5) (oi := _) (v := ?vr14_1_5) rfl (by kernel_rfl) (by kernel_rfl) (by kernel_rfl) ?hqr14_1_5 (Or.inl ⟨by kernel_rfl, ?hyr14_1_5⟩) (by assumption) ?restr14_1_5
          case hqr14_1_5 => exact fun _ _ _ h => h
          case hyr14_1_5 => (intro w hSw; (try dsimp only at hSw); go_simp; try with_reducible rfl)
          try simp only [Act.put, List.getElem_toArray, List.getElem_cons_succ, List.getElem_cons_zero, List.setIfInBounds_toArray, List.set_cons_zero, List.set_cons_succ]
          refine wpAnyH_take (i := 6) (oi := _) (v := ?vr14_1_6) rfl (by kernel_rfl) (by kernel_rfl) (by kernel_rfl) ?hqr14_1_6 (Or.inl ⟨by kernel_rfl, ?hyr14_1_6⟩) (by assumption) ?restr14_1_6
          case hqr14_1_6 => exact fun _ _ _ h => h
          case hyr14_1_6 => (intro w hSw; (try dsimp only at hSw); go_simp; try with_reducible rfl)
          try simp only [Act.put, List.getElem_toArray, List.getElem_cons_succ, List.getElem_cons_zero, List.setIfInBounds_toArray, List.set_cons_zero, List.set_cons_succ]
          refine wpAnyH_ready (rs := [7]) (by kernel_rfl) (by simp) ?_
          refine AllReadyH.cons (o := _) rfl (fun K hK => ?_) AllReadyH.nil
          go_simp
          (go_at_call 58; refine (HLE.out _).mono ?_; rintro e w6 ⟨rfl, hb6⟩; have hB6 : Bel w5 w6 := Bel.then_ (Bel.refl w5).drew hb6)
          try (go_wp2_with fail)
          refine hK.out _ _ ?_ (fun hHr14_1 => ?_)
          · (try dsimp only); (first | assumption | exact hS _ (Bel.refl w5).drew | exact hS _ hB6 | exact hS _ (hB6.then_ hb7))
          clear hK K hHr14_0
          try simp only [Act.put, List.getElem_toArray, List.getElem_cons_succ, List.getElem_cons_zero, List.setIfInBounds_toArray, List.set_cons_zero, List.set_cons_succ]
          refine wpAnyH_take (i := 8) (oi := _) (v := ?vr14_1_8) rfl (by kernel_rfl) (by kernel_rfl) (by kernel_rfl) ?hqr14_1_8 (Or.inl ⟨by kernel_rfl, ?hyr14_1_8⟩) (by assumption) ?restr14_1_8
          case hqr14_1_8 => exact fun _ _ _ h => h
          case hyr14_1_8 => (intro w hSw; (try dsimp only at hSw); go_simp; try with_reducible rfl)
          try simp only [Act.put, List.getElem_toArray, List.getElem_cons_succ, List.getElem_cons_zero, List.setIfInBounds_toArray, List.set_cons_zero, List.set_cons_succ]
          refine wpAnyH_take (i := 9) (oi := _) (v := ?vr14_1_9) rfl (by kernel_rfl) (by kernel_rfl) (by kernel_rfl) ?hqr14_1_9 (Or.inl ⟨by kernel_rfl, ?hyr14_1_9⟩) (by assumption) ?restr14_1_9
          case hqr14_1_9 => exact fun _ _ _ h => h
          case hyr14_1_9 => (intro w hSw; (try dsimp only at hSw); go_simp; try with_reducible rfl)
          try simp only [Act.put, List.getElem_toArray, List.getElem_cons_succ, List.getElem_cons_zero, List.setIfInBounds_toArray, List.set_cons_zero, List.set_cons_succ]
          refine wpAnyH_take (i := 10) (oi := _) (v := ?vr14_1_10) rfl (by kernel_rfl) (by kernel_rfl) (by kernel_rfl) ?hqr14_1_10 (Or.inl ⟨by kernel_rfl, ?hyr14_1_10⟩) (by assumption) ?restr14_1_10
          case hqr14_1_10 => exact fun _ _ _ h => h
          case hyr14_1_10 => (intro w hSw; (try dsimp only at hSw); go_simp; try with_reducible rfl)
          try simp only [Act.put, List.getElem_toArray, List.getElem_cons_succ, List.getElem_cons_zero, List.setIfInBounds_toArray, List.set_cons_zero, List.set_cons_succ]
          refine wpAnyH_take (i := 11) (oi := _) (v := ?vr14_1_11) rfl (by kernel_rfl) (by kernel_rfl) (by kernel_rfl) ?hqr14_1_11 (Or.inl ⟨by kernel_rfl, ?hyr14_1_11⟩) (by assumption) ?restr14_1_11
          case hqr14_1_11 => exact fun _ _ _ h => h
          case hyr14_1_11 => (intro w hSw; (try dsimp only at hSw); go_simp; try with_reducible rfl)
          try simp only [Act.put, List.getElem_toArray, List.getElem_cons_succ, List.getElem_cons_zero, List.setIfInBounds_toArray, List.set_cons_zero, List.set_cons_succ]
          refine wpAnyH_take (i := 12) (oi := _) (v := ?vr14_1_12) rfl (by kernel_rfl) (by kernel_rfl) (by kernel_rfl) ?hqr14_1_12 (Or.inl ⟨by kernel_rfl, ?hyr14_1_12⟩) (by assumption) ?restr14_1_12
          case hqr14_1_12 => exact fun _ _ _ h => h
          case hyr14_1_12 => (intro w hSw; (try dsimp only at hSw); go_simp; try with_reducible rfl)
          try simp only [Act.put, List.getElem_toArray, List.getElem_cons_succ, List.getElem_cons_zero, List.setIfInBounds_toArray, List.set_cons_zero, List.set_cons_succ]
          refine wpAnyH_take (i := 13) (oi := _) (v := ?vr14_1_13) rfl (by kernel_rfl) (by kernel_rfl) (by kernel_rfl) ?hqr14_1_13 (Or.inl ⟨by kernel_rfl, ?hyr14_1_13⟩) (by assumption) ?restr14_1_13
          case hqr14_1_13 => exact fun _ _ _ h => h
          case hyr14_1_13 => (intro w hSw; (try dsimp only at hSw); go_simp; try with_reducible rfl)
          try simp only [Act.put, List.getElem_toArray, List.getElem_cons_succ, List.getElem_cons_zero, List.setIfInBounds_toArray, List.set_cons_zero, List.set_cons_succ]
          refine wpAnyH_ready (rs := [14]) (by kernel_rfl) (by simp) ?_
          refine AllReadyH.cons (o := _) rfl (fun K hK => ?_) AllReadyH.nil
          go_simp
          (go_at_call 58; refine (HLE.out _).mono ?_; rintro e w7 ⟨rfl, hb7⟩)
          try (go_wp2_with fail)
          refine hK.out _ _ ?_ (fun hHr14_2 => ?_)
          · (try dsimp only); (first | assumption | exact hS _ (Bel.refl w5).drew | exact hS _ hB6 | exact hS _ (hB6.then_ hb7))
          clear hK K hHr14_1
          try simp only [Act.put, List.getElem_toArray, List.getElem_cons_succ, List.getElem_cons_zero, List.setIfInBounds_toArray, List.set_cons_zero, List.set_cons_succ]
          refine wpAnyH_take (i := 15) (oi := _) (v := ?vr14_1_15) rfl (by kernel_rfl) (by kernel_rfl) (by kernel_rfl) ?hqr14_1_15 (Or.inl ⟨by kernel_rfl, ?hyr14_1_15⟩) (by assumption) ?restr14_1_15
          case hqr14_1_15 => exact fun _ _ _ h => h
          case hyr14_1_15 => (intro w hSw; (try dsimp only at hSw); go_simp; try with_reducible rfl)
          try simp only [Act.put, List.getElem_toArray, List.getElem_cons_succ, List.getElem_cons_zero, List.setIfInBounds_toArray, List.set_cons_zero, List.set_cons_succ]
          refine wpAnyH_take (i := 16) (oi := _) (v := ?vr14_1_16) rfl (by kernel_rfl) (by kernel_rfl) (by kernel_rfl) ?hqr14_1_16 (Or.inl ⟨by kernel_rfl, ?hyr14_1_16⟩) (by assumption) ?restr14_1_16
          case hqr14_1_16 => exact fun _ _ _ h => h
          case hyr14_1_16 => (intro w hSw; (try dsimp only at hSw); go_simp; try with_reducible rfl)
          try simp only [Act.put, List.getElem_toArray, List.getElem_cons_succ, List.getElem_cons_zero, List.setIfInBounds_toArray, List.set_cons_zero, List.set_cons_succ]
          refine wpAnyH_take (i := 17) (oi := _) (v := ?vr14_1_17) rfl (by kernel_rfl) (by kernel_rfl) (by kernel_rfl) ?hqr14_1_17 (Or.inl ⟨by kernel_rfl, ?hyr14_1_17⟩) (by assumption) ?restr14_1_17
          case hqr14_1_17 => exact fun _ _ _ h => h
          case hyr14_1_17 => (intro w hSw; (try dsimp only at hSw); go_simp; try with_reducible rfl)
          try simp only [Act.put, List.getElem_toArray, List.getElem_cons_succ, List.getElem_cons_zero, List.setIfInBounds_toArray, List.set_cons_zero, List.set_cons_succ]
          refine wpAnyH_take (i := 18) (oi := _) (v := ?vr14_1_18) rfl (by kernel_rfl) (by kernel_rfl) (by kernel_rfl) ?hqr14_1_18 (Or.inl ⟨by kernel_rfl, ?hyr14_1_18⟩) (by assumption) ?restr14_1_18
          case hqr14_1_18 => exact fun _ _ _ h => h
          case hyr14_1_18 => (intro w hSw; (try dsimp only at hSw); go_simp; try with_reducible rfl)
          try simp only [Act.put, List.getElem_toArray, List.getElem_cons_succ, List.getElem_cons_zero, List.setIfInBounds_toArray, List.set_cons_zero, List.set_cons_succ]
          refine wpAnyH_take (i := 19) (oi := _) (v := ?vr14_1_19) rfl (by kernel_rfl) (by kernel_rfl) (by kernel_rfl) ?hqr14_1_19 (Or.inl ⟨by kernel_rfl, ?hyr14_1_19⟩) (by assumption) ?restr14_1_19
          case hqr14_1_19 => exact fun _ _ _ h => h
          case hyr14_1_19 => (intro w hSw; (try dsimp only at hSw); go_simp; try with_reducible rfl)
          try simp only [Act.put, List.getElem_toArray, List.getElem_cons_succ, List.getElem_cons_zero, List.setIfInBounds_toArray, List.set_cons_zero, List.set_cons_succ]
          refine wpAnyH_take (i := 20) (oi := _) (v := ?vr14_1_20) rfl (by kernel_rfl) (by kernel_rfl) (by kernel_rfl) ?hqr14_1_20 (Or.inl ⟨by kernel_rfl, ?hyr14_1_20⟩) (by assumption) ?restr14_1_20
          case hqr14_1_20 => exact fun _ _ _ h => h
          case hyr14_1_20 => (intro w hSw; (try dsimp only at hSw); go_simp; try with_reducible rfl)
          try simp only [Act.put, List.getElem_toArray, List.getElem_cons_succ, List.getElem_cons_zero, List.setIfInBounds_toArray, List.set_cons_zero, List.set_cons_succ]
          refine wpAnyH_done (by kernel_rfl) ?_ _
          refine NoPanic.normal ?_
          go_wp2
          go_ret
          exact ⟨by rw [hR2]; rfl, hB5.then_ (by assumption : _ ∧ _ ∧ _ ∧ Bel w5 _).2.2.2⟩
        · have hub : decide (9223372036854775807 < n) = false := by simp; omega
          have hR2 : R = 0 := by rw [HR1.out, if_pos (by omega)]
          refine wp_region_noPanic ?_
          refine wp_region_held_drew (S := (fun V : World => V.cell? ⟨w.heap.size, 2, none⟩ = some (.int .i64 8) ∧ V.cell? ⟨w.heap.size + 1, 1, none⟩ = some (.int .i64 n) ∧ V.cell? ⟨w.heap.size + 1, 2, none⟩ = some (.int .u64 u) ∧ Bel w5 V)) (by kernel_rfl) ?_ (fun hHr15_0 => ?_)
          · (try dsimp only); (first | assumption | exact hS _ (Bel.refl w5).drew | exact hS _ hB6 | exact hS _ (hB6.then_ hb7))
          refine wpAnyH_take (i := 0) (oi := _) (v := ?vr15_1_0) rfl (by kernel_rfl) (by kernel_rfl) (by kernel_rfl) ?hqr15_1_0 (Or.inl ⟨by kernel_rfl, ?hyr15_1_0⟩) (by assumption) ?restr15_1_0
          case hqr15_1_0 => exact fun _ _ _ h => h
          case hyr15_1_0 => (intro w hSw; (try dsimp only at hSw); go_simp; try with_reducible rfl)
          try simp only [Act.put, List.getElem_toArray, List.getElem_cons_succ, List.getElem_cons_zero, List.setIfInBounds_toArray, List.set_cons_zero, List.set_cons_succ]
          refine wpAnyH_take (i := 1) (oi := _) (v := ?vr15_1_1) rfl (by kernel_rfl) (by kernel_rfl) (by kernel_rfl) ?hqr15_1_1 (Or.inl ⟨by kernel_rfl, ?hyr15_1_1⟩) (by assumption) ?restr15_1_1
          case hqr15_1_1 => exact fun _ _ _ h => h
          case hyr15_1_1 => (intro w hSw; (try dsimp only at hSw); go_simp; try with_reducible rfl)
          try simp only [Act.put, List.getElem_toArray, List.getElem_cons_succ, List.getElem_cons_zero, List.setIfInBounds_toArray, List.set_cons_zero, List.set_cons_succ]
          refine wpAnyH_take (i := 2) (oi := _) (v := ?vr15_1_2) rfl (by kernel_rfl) (by kernel_rfl) (by kernel_rfl) ?hqr15_1_2 (Or.inl ⟨by kernel_rfl, ?hyr15_1_2⟩) (by assumption) ?restr15_1_2
          case hqr15_1_2 => exact fun _ _ _ h => h
          case hyr15_1_2 => (intro w hSw; (try dsimp only at hSw); go_simp; try with_reducible rfl)
          try simp only [Act.put, List.getElem_toArray, List.getElem_cons_succ, List.getElem_cons_zero, List.setIfInBounds_toArray, List.set_cons_zero, List.set_cons_succ]
          refine wpAnyH_take (i := 3) (oi := _) (v := ?vr15_1_3) rfl (by kernel_rfl) (by kernel_rfl) (by kernel_rfl) ?hqr15_1_3 (Or.inl ⟨by kernel_rfl, ?hyr15_1_3⟩) (by assumption) ?restr15_1_3
          case hqr15_1_3 => exact fun _ _ _ h => h
          case hyr15_1_3 => (intro w hSw; (try dsimp only at hSw); go_simp; try with_reducible rfl)
          try simp only [Act.put, List.getElem_toArray, List.getElem_cons_succ, List.getElem_cons_zero, List.setIfInBounds_toArray, List.set_cons_zero, List.set_cons_succ]
          refine wpAnyH_take (i := 4) (oi := _) (v := ?vr15_1_4) rfl (by kernel_rfl) (by kernel_rfl) (by kernel_rfl) ?hqr15_1_4 (Or.inl ⟨by kernel_rfl, ?hyr15_1_4⟩) (by assumption) ?restr15_1_4
          case hqr15_1_4 => exact fun _ _ _ h => h
          case hyr15_1_4 => (intro w hSw; (try dsimp only at hSw); go_simp; try with_reducible rfl)
          try simp only [Act.put, List.getElem_toArray, List.getElem_cons_succ, List.getElem_cons_zero, List.setIfInBounds_toArray, List.set_cons_zero, List.set_cons_succ]
          refine wpAnyH_take (i := 5) (oi := _) (v := ?vr15_1_5) rfl (by kernel_rfl) (by kernel_rfl) (by kernel_rfl) ?hqr15_1_5 (Or.inl ⟨by kernel_rfl, ?hyr15_1_5⟩) (by assumption) ?restr15_1_5
          case hqr15_1_5 => exact fun _ _ _ h => h
          case hyr15_1_5 => (intro w hSw; (try dsimp only at hSw); go_simp; try with_reducible rfl)
          try simp only [Act.put, List.getElem_toArray, List.getElem_cons_succ, List.getElem_cons_zero, List.setIfInBounds_toArray, List.set_cons_zero, List.set_cons_succ]
          refine wpAnyH_take (i := 6) (oi := _) (v := ?vr15_1_6) rfl (by kernel_rfl) (by kernel_rfl) (by kernel_rfl) ?hqr15_1_6 (Or.inl ⟨by kernel_rfl, ?hyr15_1_6⟩) (by assumption) ?restr15_1_6
          case hqr15_1_6 => exact fun _ _ _ h => h
          case hyr15_1_6 => (intro w hSw; (try dsimp only at hSw); go_simp; try with_reducible rfl)
          try simp only [Act.put, List.getElem_toArray, List.getElem_cons_succ, List.getElem_cons_zero, List.setIfInBounds_toArray, List.set_cons_zero, List.set_cons_succ]
          refine wpAnyH_ready (rs := [7]) (by kernel_rfl) (by simp) ?_
          refine AllReadyH.cons (o := _) rfl (fun K hK => ?_) AllReadyH.nil
          go_simp
          (go_at_call 58; refine (HLE.out _).mono ?_; rintro e w6 ⟨rfl, hb6⟩; have hB6 : Bel w5 w6 := Bel.then_ (Bel.refl w5).drew hb6)
          try (go_wp2_with fail)
          refine hK.out _ _ ?_ (fun hHr15_1 => ?_)
          · (try dsimp only); (first | assumption | exact hS _ (Bel.refl w5).drew | exact hS _ hB6 | exact hS _ (hB6.then_ hb7))
          clear hK K hHr15_0
          try simp only [Act.put, List.getElem_toArray, List.getElem_cons_succ, List.getElem_cons_zero, List.setIfInBounds_toArray, List.set_cons_zero, List.set_cons_succ]
          refine wpAnyH_take (i := 8) (oi := _) (v := ?vr15_1_8) rfl (by kernel_rfl) (by kernel_rfl) (by kernel_rfl) ?hqr15_1_8 (Or.inl ⟨by kernel_rfl, ?hyr15_1_8⟩) (by assumption) ?restr15_1_8
          case hqr15_1_8 => exact fun _ _ _ h => h
          case hyr15_1_8 => (intro w hSw; (try dsimp only at hSw); go_simp; try with_reducible rfl)
          try simp only [Act.put, List.getElem_toArray, List.getElem_cons_succ, List.getElem_cons_zero, List.setIfInBounds_toArray, List.set_cons_zero, List.set_cons_succ]
          refine wpAnyH_take (i := 9) (oi := _) (v := ?vr15_1_9) rfl (by kernel_rfl) (by kernel_rfl) (by kernel_rfl) ?hqr15_1_9 (Or.inl ⟨by kernel_rfl, ?hyr15_1_9⟩) (by assumption) ?restr15_1_9
          case hqr15_1_9 => exact fun _ _ _ h => h
          case hyr15_1_9 => (intro w hSw; (try dsimp only at hSw); go_simp; try with_reducible rfl)
          try simp only [Act.put, List.getElem_toArray, List.getElem_cons_succ, List.getElem_cons_zero, List.setIfInBounds_toArray, List.set_cons_zero, List.set_cons_succ]
          refine wpAnyH_take (i := 10) (oi := _) (v := ?vr15_1_10) rfl (by kernel_rfl) (by kernel_rfl) (by kernel_rfl) ?hqr15_1_10 (Or.inl ⟨by kernel_rfl, ?hyr15_1_10⟩) (by assumption) ?restr15_1_10
          case hqr15_1_10 => exact fun _ _ _ h => h
          case hyr15_1_10 => (intro w hSw; (try dsimp only at hSw); go_simp; try with_reducible rfl)
          try simp only [Act.put, List.getElem_toArray, List.getElem_cons_succ, List.getElem_cons_zero, List.setIfInBounds_toArray, List.set_cons_zero, List.set_cons_succ]
          refine wpAnyH_take (i := 11) (oi := _) (v := ?vr15_1_11) rfl (by kernel_rfl) (by kernel_rfl) (by kernel_rfl) ?hqr15_1_11 (Or.inl ⟨by kernel_rfl, ?hyr15_1_11⟩) (by assumption) ?restr15_1_11
          case hqr15_1_11 => exact fun _ _ _ h => h
          case hyr15_1_11 => (intro w hSw; (try dsimp only at hSw); go_simp; try with_reducible rfl)
          try simp only [Act.put, List.getElem_toArray, List.getElem_cons_succ, List.getElem_cons_zero, List.setIfInBounds_toArray, List.set_cons_zero, List.set_cons_succ]
          refine wpAnyH_take (i := 12) (oi := _) (v := ?vr15_1_12) rfl (by kernel_rfl) (by kernel_rfl) (by kernel_rfl) ?hqr15_1_12 (Or.inl ⟨by kernel_rfl, ?hyr15_1_12⟩) (by assumption) ?restr15_1_12
          case hqr15_1_12 => exact fun _ _ _ h => h
          case hyr15_1_12 => (intro w hSw; (try dsimp only at hSw); go_simp; try with_reducible rfl)
          try simp only [Act.put, List.getElem_toArray, List.getElem_cons_succ, List.getElem_cons_zero, List.setIfInBounds_toArray, List.set_cons_zero, List.set_cons_succ]
          refine wpAnyH_take (i := 13) (oi := _) (v := ?vr15_1_13) rfl (by kernel_rfl) (by kernel_rfl) (by kernel_rfl) ?hqr15_1_13 (Or.inl ⟨by kernel_rfl, ?hyr15_1_13⟩) (by assumption) ?restr15_1_13
          case hqr15_1_13 => exact fun _ _ _ h => h
          case hyr15_1_13 => (intro w hSw; (try dsimp only at hSw); go_simp; try with_reducible rfl)
          try simp only [Act.put, List.getElem_toArray, List.getElem_cons_succ, List.getElem_cons_zero, List.setIfInBounds_toArray, List.set_cons_zero, List.set_cons_succ]
          refine wpAnyH_ready (rs := [14]) (by kernel_rfl) (by simp) ?_
          refine AllReadyH.cons (o := _) rfl (fun K hK => ?_) AllReadyH.nil
          go_simp
          (go_at_call 58; refine (HLE.out _).mono ?_; rintro e w7 ⟨rfl, hb7⟩)
          try (go_wp2_with fail)
          refine hK.out _ _ ?_ (fun hHr15_2 => ?_)
          · (try dsimp only); (first | assumption | exact hS _ (Bel.refl w5).drew | exact hS _ hB6 | exact hS _ (hB6.then_ hb7))
          clear hK K hHr15_1
          try simp only [Act.put, List.getElem_toArray, List.getElem_cons_succ, List.getElem_cons_zero, List.setIfInBounds_toArray, List.set_cons_zero, List.set_cons_succ]
          refine wpAnyH_take (i := 15) (oi := _) (v := ?vr15_1_15) rfl (by kernel_rfl) (by kernel_rfl) (by kernel_rfl) ?hqr15_1_15 (Or.inl ⟨by kernel_rfl, ?hyr15_1_15⟩) (by assumption) ?restr15_1_15
          case hqr15_1_15 => exact fun _ _ _ h => h
          case hyr15_1_15 => (intro w hSw; (try dsimp only at hSw); go_simp; try with_reducible rfl)
          try simp only [Act.put, List.getElem_toArray, List.getElem_cons_succ, List.getElem_cons_zero, List.setIfInBounds_toArray, List.set_cons_zero, List.set_cons_succ]
          refine wpAnyH_take (i := 16) (oi := _) (v := ?vr15_1_16) rfl (by kernel_rfl) (by kernel_rfl) (by kernel_rfl) ?hqr15_1_16 (Or.inl ⟨by kernel_rfl, ?hyr15_1_16⟩) (by assumption) ?restr15_1_16
          case hqr15_1_16 => exact fun _ _ _ h => h
          case hyr15_1_16 => (intro w hSw; (try dsimp only at hSw); go_simp; try with_reducible rfl)
          try simp only [Act.put, List.getElem_toArray, List.getElem_cons_succ, List.getElem_cons_zero, List.setIfInBounds_toArray, List.set_cons_zero, List.set_cons_succ]
          refine wpAnyH_take (i := 17) (oi := _) (v := ?vr15_1_17) rfl (by kernel_rfl) (by kernel_rfl) (by kernel_rfl) ?hqr15_1_17 (Or.inl ⟨by kernel_rfl, ?hyr15_1_17⟩) (by assumption) ?restr15_1_17
          case hqr15_1_17 => exact fun _ _ _ h => h
          case hyr15_1_17 => (intro w hSw; (try dsimp only at hSw); go_simp; try with_reducible rfl)
          try simp only [Act.put, List.getElem_toArray, List.getElem_cons_succ, List.getElem_cons_zero, List.setIfInBounds_toArray, List.set_cons_zero, List.set_cons_succ]
          refine wpAnyH_take (i := 18) (oi := _) (v := ?vr15_1_18) rfl (by kernel_rfl) (by kernel_rfl) (by kernel_rfl) ?hqr15_1_18 (Or.inl ⟨by kernel_rfl, ?hyr15_1_18⟩) (by assumption) ?restr15_1_18
          case hqr15_1_18 => exact fun _ _ _ h => h
          case hyr15_1_18 => (intro w hSw; (try dsimp only at hSw); go_simp; try with_reducible rfl)
          try simp only [Act.put, List.getElem_toArray, List.getElem_cons_succ, List.getElem_cons_zero, List.setIfInBounds_toArray, List.set_cons_zero, List.set_cons_succ]
          refine wpAnyH_take (i := 19) (oi := _) (v := ?vr15_1_19) rfl (by kernel_rfl) (by kernel_rfl) (by kernel_rfl) ?hqr15_1_19 (Or.inl ⟨by kernel_rfl, ?hyr15_1_19⟩) (by assumption) ?restr15_1_19
          case hqr15_1_19 => exact fun _ _ _ h => h
          case hyr15_1_19 => (intro w hSw; (try dsimp only at hSw); go_simp; try with_reducible rfl)
          try simp only [Act.put, List.getElem_toArray, List.getElem_cons_succ, List.getElem_cons_zero, List.setIfInBounds_toArray, List.set_cons_zero, List.set_cons_succ]
          refine wpAnyH_take (i := 20) (oi := _) (v := ?vr15_1_20) rfl (by kernel_rfl) (by kernel_rfl) (by kernel_rfl) ?hqr15_1_20 (Or.inl ⟨by kernel_rfl, ?hyr15_1_20⟩) (by assumption) ?restr15_1_20
          case hqr15_1_20 => exact fun _ _ _ h => h
          case hyr15_1_20 => (intro w hSw; (try dsimp only at hSw); go_simp; try with_reducible rfl)
          try simp only [Act.put, List.getElem_toArray, List.getElem_cons_succ, List.getElem_cons_zero, List.setIfInBounds_toArray, List.set_cons_zero, List.set_cons_succ]
          refine wpAnyH_done (by kernel_rfl) ?_ _
          refine NoPanic.normal ?_
          have hB7 := (by assumption : _ ∧ _ ∧ _ ∧ Bel w5 _).2.2.2
          go_wp2
          refine wp_region_noPanic ?_
          refine wp_region_held_drew (S := (fun V : World => Bel w5 V)) (by kernel_rfl) ?_ (fun hHr16_0 => ?_)
          · (try dsimp only); (first | assumption | exact hB7.drew)
          refine wpAnyH_take (i := 0) (oi := _) (v := ?vr16_1_0) rfl (by kernel_rfl) (by kernel_rfl) (by kernel_rfl) ?hqr16_1_0 (Or.inl ⟨by kernel_rfl, ?hyr16_1_0⟩) (by assumption) ?restr16_1_0
          case hqr16_1_0 => exact fun _ _ _ h => h
          case hyr16_1_0 => (intro w hSw; (try dsimp only at hSw); go_simp; try with_reducible rfl)
          try simp only [Act.put, List.getElem_toArray, List.getElem_cons_succ, List.getElem_cons_zero, List.setIfInBounds_toArray, List.set_cons_zero, List.set_cons_succ]
          refine wpAnyH_take (i := 1) (oi := _) (v := ?vr16_1_1) rfl (by kernel_rfl) (by kernel_rfl) (by kernel_rfl) ?hqr16_1_1 (Or.inl ⟨by kernel_rfl, ?hyr16_1_1⟩) (by assumption) ?restr16_1_1
          case hqr16_1_1 => exact fun _ _ _ h => h
          case hyr16_1_1 => (intro w hSw; (try dsimp only at hSw); go_simp; try with_reducible rfl)
          try simp only [Act.put, List.getElem_toArray, List.getElem_cons_succ, List.getElem_cons_zero, List.setIfInBounds_toArray, List.set_cons_zero, List.set_cons_succ]
          refine wpAnyH_take (i := 2) (oi := _) (v := ?vr16_1_2) rfl (by kernel_rfl) (by kernel_rfl) (by kernel_rfl) ?hqr16_1_2 (Or.inl ⟨by kernel_rfl, ?hyr16_1_2⟩) (by assumption) ?restr16_1_2
          case hqr16_1_2 => exact fun _ _ _ h => h
          case hyr16_1_2 => (intro w hSw; (try dsimp only at hSw); go_simp; try with_reducible rfl)
          try simp only [Act.put, List.getElem_toArray, List.getElem_cons_succ, List.getElem_cons_zero, List.setIfInBounds_toArray, List.set_cons_zero, List.set_cons_succ]
          refine wpAnyH_take (i := 3) (oi := _) (v := undef) rfl (by kernel_rfl) (by kernel_rfl) (by kernel_rfl) (fun _ _ _ h => h) (Or.inr ⟨by kernel_rfl, rfl⟩) (by assumption) ?restr16_1_3
          try simp only [Act.put, List.getElem_toArray, List.getElem_cons_succ, List.getElem_cons_zero, List.setIfInBounds_toArray, List.set_cons_zero, List.set_cons_succ]
          refine wpAnyH_take (i := 4) (oi := _) (v := undef) rfl (by kernel_rfl) (by kernel_rfl) (by kernel_rfl) (fun _ _ _ h => h) (Or.inr ⟨by kernel_rfl, rfl⟩) (by assumption) ?restr16_1_4
          try simp only [Act.put, List.getElem_toArray, List.getElem_cons_succ, List.getElem_cons_zero, List.setIfInBounds_toArray, List.set_cons_zero, List.set_cons_succ]
          refine wpAnyH_take (i := 5) (oi := _) (v := undef) rfl (by kernel_rfl) (by kernel_rfl) (by kernel_rfl) (fun _ _ _ h => h) (Or.inr ⟨by kernel_rfl, rfl⟩) (by assumption) ?restr16_1_5
          try simp only [Act.put, List.getElem_toArray, List.getElem_cons_succ, List.getElem_cons_zero, List.setIfInBounds_toArray, List.set_cons_zero, List.set_cons_succ]
          refine wpAnyH_take (i := 6) (oi := _) (v := undef) rfl (by kernel_rfl) (by kernel_rfl) (by kernel_rfl) (fun _ _ _ h => h) (Or.inr ⟨by kernel_rfl, rfl⟩) (by assumption) ?restr16_1_6
          try simp only [Act.put, List.getElem_toArray, List.getElem_cons_succ, List.getElem_cons_zero, List.setIfInBounds_toArray, List.set_cons_zero, List.set_cons_succ]
          refine wpAnyH_take (i := 7) (oi := _) (v := undef) rfl (by kernel_rfl) (by kernel_rfl) (by kernel_rfl) (fun _ _ _ h => h) (Or.inr ⟨by kernel_rfl, rfl⟩) (by assumption) ?restr16_1_7
          try simp only [Act.put, List.getElem_toArray, List.getElem_cons_succ, List.getElem_cons_zero, List.setIfInBounds_toArray, List.set_cons_zero, List.set_cons_succ]
          refine wpAnyH_take (i := 8) (oi := _) (v := undef) rfl (by kernel_rfl) (by kernel_rfl) (by kernel_rfl) (fun _ _ _ h => h) (Or.inr ⟨by kernel_rfl, rfl⟩) (by assumption) ?restr16_1_8
          try simp only [Act.put, List.getElem_toArray, List.getElem_cons_succ, List.getElem_cons_zero, List.setIfInBounds_toArray, List.set_cons_zero, List.set_cons_succ]
          refine wpAnyH_take (i := 9) (oi := _) (v := ?vr16_1_9) rfl (by kernel_rfl) (by kernel_rfl) (by kernel_rfl) ?hqr16_1_9 (Or.inl ⟨by kernel_rfl, ?hyr16_1_9⟩) (by assumption) ?restr16_1_9
          case hqr16_1_9 => exact fun _ _ _ h => h
          case hyr16_1_9 => (intro w hSw; (try dsimp only at hSw); go_simp; try with_reducible rfl)
          try simp only [Act.put, List.getElem_toArray, List.getElem_cons_succ, List.getElem_cons_zero, List.setIfInBounds_toArray, List.set_cons_zero, List.set_cons_succ]
          refine wpAnyH_take (i := 10) (oi := _) (v := ?vr16_1_10) rfl (by kernel_rfl) (by kernel_rfl) (by kernel_rfl) ?hqr16_1_10 (Or.inl ⟨by kernel_rfl, ?hyr16_1_10⟩) (by assumption) ?restr16_1_10
          case hqr16_1_10 => exact fun _ _ _ h => h
          case hyr16_1_10 => (intro w hSw; (try dsimp only at hSw); go_simp; try with_reducible rfl)
          try simp only [Act.put, List.getElem_toArray, List.getElem_cons_succ, List.getElem_cons_zero, List.setIfInBounds_toArray, List.set_cons_zero, List.set_cons_succ]
          refine wpAnyH_done (by kernel_rfl) ?_ _
          refine NoPanic.normal ?_
          go_wp2
          go_ret
          exact ⟨by rw [hR2]; rfl, hB5.then_ hB7.drew⟩
end Go.Proofs.YtkklmflclmgjeaaGreatDoor
