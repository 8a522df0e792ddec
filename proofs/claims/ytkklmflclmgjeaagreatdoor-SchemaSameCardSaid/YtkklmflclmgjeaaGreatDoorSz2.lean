/-
  Schema: Same, by the document.
-/
import Derived.Test.YtkklmflclmgjeaaGreatDoorSz
set_option linter.unusedVariables false
set_option linter.unusedSimpArgs false
set_option linter.unusedVariables false
set_option linter.unusedSimpArgs false
namespace Go.Proofs.YtkklmflclmgjeaaGreatDoor
open Go.RowKit Go.Shelf Go.Lib
attribute [local go_sem] Oper.semAt_some

set_option maxRecDepth 100000 in
set_option maxHeartbeats 8000000 in
theorem tSame_any (va vka vua vb vkb vub : Value) (a b : List Col) (ka kb : List Int) (ua ub : List (List Int)) (w : World) (ha : ColsAt w va a) (hka : IntsAt w vka ka) (hua : ListsAt w vua ua) (hb : ColsAt w vb b) (hkb : IntsAt w vkb kb) (hub : ListsAt w vub ub) :
    Calls Tryz.prog 27 #[.agg #[va, vka, vua], .agg #[vb, vkb, vub]] w fun e w' => e = .returned (.bool (sameS a b ka kb ua ub)) ∧ Bel w w' := by
  obtain ⟨R, hR⟩ : ∃ R, R = sameS a b ka kb ua ub := ⟨_, rfl⟩
  rw [← hR]
  have HR := Lib.hid hR
  clear hR
  have HK := Lib.hid (fun V (h : Bel w V) => tInts3_any vka vkb ka kb V (hka.bel h) (hkb.bel h))
  clear hka hkb
  obtain ⟨Aa, ca, rfl, hca, hma, hra⟩ := ha
  obtain ⟨Ab, cb, rfl, hcb, hmb, hrb⟩ := hb
  obtain ⟨Au, cu, rfl, hcu, hmu, hru⟩ := hua
  obtain ⟨Av, cv, rfl, hcv, hmv, hrv⟩ := hub
  have haI : (a.length : Int) ≤ 9223372036854775807 := by unfold maxLen at hma; omega
  have hbI : (b.length : Int) ≤ 9223372036854775807 := by unfold maxLen at hmb; omega
  have huI : (ua.length : Int) ≤ 9223372036854775807 := by unfold maxLen at hmu; omega
  have hvI : (ub.length : Int) ≤ 9223372036854775807 := by unfold maxLen at hmv; omega
  have HRA := Lib.hid hra
  have HRB := Lib.hid hrb
  have HRU := Lib.hid hru
  have HRV := Lib.hid hrv
  clear hra hrb hru hrv hma hmb hmu hmv hca hcb hcu hcv
  have hb0 : Bel w ((w.alloc (.cells #[.slice Aa a.length ca, vka, .slice Au ua.length cu] 26)).alloc (.cells #[.slice Ab b.length cb, vkb, .slice Av ub.length cv] 26)) := ((Bel.refl w).alloc _).alloc _
  have HCL : Hid (∀ V, Bel ((w.alloc (.cells #[.slice Aa a.length ca, vka, .slice Au ua.length cu] 26)).alloc (.cells #[.slice Ab b.length cb, vkb, .slice Av ub.length cv] 26)) V → V.cell? ⟨w.heap.size, 0, none⟩ = some (.slice Aa a.length ca) ∧ V.cell? ⟨w.heap.size, 2, none⟩ = some (.slice Au ua.length cu) ∧ V.cell? ⟨w.heap.size + 1, 0, none⟩ = some (.slice Ab b.length cb) ∧ V.cell? ⟨w.heap.size + 1, 2, none⟩ = some (.slice Av ub.length cv)) :=
    fun V h => ⟨h.c (by go_simp), h.c (by go_simp), h.c (by go_simp), h.c (by go_simp)⟩
  by_cases n1 : a.length = b.length
  case neg =>
    have hf : R = false := by rw [HR.out]; unfold sameS; rw [decide_eq_false (fun e => n1 (by rw [e]))]; rfl
    have n1b : ((a.length : Int) != b.length) = true := by rw [bne_iff_ne]; omega
    go_enter Tryz.func27, Tryz.ntmps27
    go_wp2_with fail
    go_ret
    exact ⟨by first | rfl | (rw [hf]; rfl), hb0⟩
  have n1b : ((a.length : Int) != b.length) = false := by rw [bne_eq_false_iff_eq]; omega
  have N1 := Lib.hid n1
  clear n1
  by_cases n2 : ua.length = ub.length
  case neg =>
    have hf : R = false := by rw [HR.out]; unfold sameS; rw [decide_eq_false (p := ua = ub) (fun e => n2 (by rw [e]))]; simp
    have n2b : ((ua.length : Int) != ub.length) = true := by rw [bne_iff_ne]; omega
    go_enter Tryz.func27, Tryz.ntmps27
    go_wp2_with fail
    go_ret
    exact ⟨by first | rfl | (rw [hf]; rfl), hb0⟩
  have n2b : ((ua.length : Int) != ub.length) = false := by rw [bne_eq_false_iff_eq]; omega
  have N2 := Lib.hid n2
  clear n2
  by_cases n3 : ka = kb
  case neg =>
    have hf : R = false := by rw [HR.out]; unfold sameS; rw [decide_eq_false n3]; simp
    rw [decide_eq_false n3] at HK
    clear n3
    go_enter Tryz.func27, Tryz.ntmps27
    go_wp2_with (go_at_call 33; refine (HK.out _ hb0).mono ?_; rintro e w4 ⟨rfl, hb4⟩)
    go_ret
    exact ⟨by first | rfl | (rw [hf]; rfl), hb0.then_ hb4⟩
  rw [decide_eq_true n3] at HK
  have HRN : Hid (R = (decide (a = b) && decide (ua = ub))) := by show _ = _; rw [HR.out]; unfold sameS; rw [decide_eq_true n3, Bool.true_and]
  clear n3 HR
  go_enter Tryz.func27, Tryz.ntmps27
  go_wp2_with (go_at_call 33; refine (HK.out _ hb0).mono ?_; rintro e w4 ⟨rfl, hb4⟩)
  have HB4 := Lib.hid hb4
  have HW4 := Lib.hid (hb0.then_ hb4)
  clear hb4 hb0
  go_loopw [5] (fun i wr => ∃ k : Nat, k ≤ a.length ∧ i = .int .i64 k ∧ Hid (Bel w4 wr) ∧ Hid (a.take k = b.take k)) (fun i _ => a.length - (intOf i).toNat)
  case atStart => exact ⟨0, Nat.zero_le _, rfl, Bel.refl w4, by show _ = _; simp⟩
  case round =>
    obtain ⟨k, hk, rfl, HB, HT⟩ := hrel
    obtain ⟨l0, l2, m0, m2⟩ := HCL.out _ (HB4.out.then_ HB.out)
    by_cases hlt : k < a.length
    · obtain ⟨x, hx⟩ : ∃ x, a[k]? = some x := ⟨_, List.getElem?_eq_getElem hlt⟩
      obtain ⟨y, hy⟩ : ∃ y, b[k]? = some y := ⟨_, List.getElem?_eq_getElem (by have := N1.out; omega)⟩
      obtain ⟨ba, oa, rfl, hai⟩ := HRA.out (by omega)
      obtain ⟨bb, ob, rfl, hbi⟩ := HRB.out (by have := N1.out; omega)
      have hbw : Bel w wr := HW4.out.then_ HB.out
      have p0 := hbw.drew.c (hai k x hx).1
      have r0 := hbw.drew.c (hbi k y hy).1
      have p1 := hbw.drew.c (hai k x hx).2.1
      have r1 := hbw.drew.c (hbi k y hy).2.1
      have p2 := hbw.drew.c (hai k x hx).2.2.1
      have r2 := hbw.drew.c (hbi k y hy).2.2.1
      have p3 := hbw.drew.c (hai k x hx).2.2.2
      have r3 := hbw.drew.c (hbi k y hy).2.2.2
      have q0 := (Bel.refl wr).drew.c l0
      have q1 := (Bel.refl wr).drew.c m0
      have hkI : (k : Int) < a.length := by omega
      have hkJ : (k : Int) < b.length := by have := N1.out; omega
      have HNX : Hid (x = y → a.take (k + 1) = b.take (k + 1)) := fun e => by rw [List.take_add_one, List.take_add_one, hx, hy, HT.out, e]
      have HNO : Hid (¬ x = y → R = false) := fun e => by rw [HRN.out, decide_eq_false (fun h => e (by rw [h, hy] at hx; exact (Option.some.inj hx).symm))]; rfl
      have HLT := Lib.hid hlt
      have HBW := Lib.hid hbw
      clear hx hy hai hbi hlt hbw l2 m2 HT
      by_cases hxy : x = y
      · have ht := Lib.hid (HNX.out hxy)
        subst hxy
        have hne := fun W => col_ne x x W
        rw [decide_eq_false (by simp)] at hne
        unfold Col.v at hne
        go_wp2
        clear l0 m0
        refine wp_region_noPanic ?_
        refine wp_region_held_drew (S := (fun V : World => V.cell? ⟨w.heap.size, 0, none⟩ = some (.slice (some ⟨ba, oa, none⟩) a.length ca) ∧ V.cell? ⟨w.heap.size + 1, 0, none⟩ = some (.slice (some ⟨bb, ob, none⟩) b.length cb) ∧ V.cell? ⟨ba, oa + k * 4, none⟩ = some (.string x.name) ∧ V.cell? ⟨ba, oa + k * 4 + 1, none⟩ = some (.int .i64 x.t) ∧ V.cell? ⟨ba, oa + k * 4 + 2, none⟩ = some (.int .i64 x.z) ∧ V.cell? ⟨ba, oa + k * 4 + 3, none⟩ = some (.bool x.null) ∧ V.cell? ⟨bb, ob + k * 4, none⟩ = some (.string x.name) ∧ V.cell? ⟨bb, ob + k * 4 + 1, none⟩ = some (.int .i64 x.t) ∧ V.cell? ⟨bb, ob + k * 4 + 2, none⟩ = some (.int .i64 x.z) ∧ V.cell? ⟨bb, ob + k * 4 + 3, none⟩ = some (.bool x.null))) (by kernel_rfl) ?_ (fun hHr1_0 => ?_)
        · (try dsimp only); exact ⟨q0, q1, p0, p1, p2, p3, r0, r1, r2, r3⟩
        refine wpAnyH_take (i := 0) (oi := _) (v := ?vr1_1_0) rfl (by kernel_rfl) (by kernel_rfl) (by kernel_rfl) ?hqr1_1_0 (Or.inl ⟨by kernel_rfl, ?hyr1_1_0⟩) (by assumption) ?restr1_1_0
        case hqr1_1_0 => exact fun _ _ _ h => h
        case hyr1_1_0 => (intro w hSw; (try dsimp only at hSw); go_simp; try with_reducible rfl)
        try simp only [Act.put, List.getElem_toArray, List.getElem_cons_succ, List.getElem_cons_zero, List.setIfInBounds_toArray, List.set_cons_zero, List.set_cons_succ]
        refine wpAnyH_take (i := 1) (oi := _) (v := ?vr1_1_1) rfl (by kernel_rfl) (by kernel_rfl) (by kernel_rfl) ?hqr1_1_1 (Or.inl ⟨by kernel_rfl, ?hyr1_1_1⟩) (by assumption) ?restr1_1_1
        case hqr1_1_1 => exact fun _ _ _ h => h
        case hyr1_1_1 => (intro w hSw; (try dsimp only at hSw); go_simp; try with_reducible rfl)
        try simp only [Act.put, List.getElem_toArray, List.getElem_cons_succ, List.getElem_cons_zero, List.setIfInBounds_toArray, List.set_cons_zero, List.set_cons_succ]
        refine wpAnyH_take (i := 2) (oi := _) (v := ?vr1_1_2) rfl (by kernel_rfl) (by kernel_rfl) (by kernel_rfl) ?hqr1_1_2 (Or.inl ⟨by kernel_rfl, ?hyr1_1_2⟩) (by assumption) ?restr1_1_2
        case hqr1_1_2 => exact fun _ _ _ h => h
        case hyr1_1_2 => (intro w hSw; (try dsimp only at hSw); go_simp; try with_reducible rfl)
        try simp only [Act.put, List.getElem_toArray, List.getElem_cons_succ, List.getElem_cons_zero, List.setIfInBounds_toArray, List.set_cons_zero, List.set_cons_succ]
        refine wpAnyH_take (i := 3) (oi := _) (v := ?vr1_1_3) rfl (by kernel_rfl) (by kernel_rfl) (by kernel_rfl) ?hqr1_1_3 (Or.inl ⟨by kernel_rfl, ?hyr1_1_3⟩) (by assumption) ?restr1_1_3
        case hqr1_1_3 => exact fun _ _ _ h => h
        case hyr1_1_3 => (intro w hSw; (try dsimp only at hSw); go_simp; try with_reducible rfl)
        try simp only [Act.put, List.getElem_toArray, List.getElem_cons_succ, List.getElem_cons_zero, List.setIfInBounds_toArray, List.set_cons_zero, List.set_cons_succ]
        refine wpAnyH_take (i := 4) (oi := _) (v := ?vr1_1_4) rfl (by kernel_rfl) (by kernel_rfl) (by kernel_rfl) ?hqr1_1_4 (Or.inl ⟨by kernel_rfl, ?hyr1_1_4⟩) (by assumption) ?restr1_1_4
        case hqr1_1_4 => exact fun _ _ _ h => h
        case hyr1_1_4 => (intro w hSw; (try dsimp only at hSw); go_simp; try with_reducible rfl)
        try simp only [Act.put, List.getElem_toArray, List.getElem_cons_succ, List.getElem_cons_zero, List.setIfInBounds_toArray, List.set_cons_zero, List.set_cons_succ]
        refine wpAnyH_take (i := 5) (oi := _) (v := ?vr1_1_5) rfl (by kernel_rfl) (by kernel_rfl) (by kernel_rfl) ?hqr1_1_5 (Or.inl ⟨by kernel_rfl, ?hyr1_1_5⟩) (by assumption) ?restr1_1_5
        case hqr1_1_5 => exact fun _ _ _ h => h
        case hyr1_1_5 => (intro w hSw; (try dsimp only at hSw); go_simp; try with_reducible rfl)
        try simp only [Act.put, List.getElem_toArray, List.getElem_cons_succ, List.getElem_cons_zero, List.setIfInBounds_toArray, List.set_cons_zero, List.set_cons_succ]
        refine wpAnyH_take (i := 6) (oi := _) (v := ?vr1_1_6) rfl (by kernel_rfl) (by kernel_rfl) (by kernel_rfl) ?hqr1_1_6 (Or.inl ⟨by kernel_rfl, ?hyr1_1_6⟩) (by assumption) ?restr1_1_6
        case hqr1_1_6 => exact fun _ _ _ h => h
        case hyr1_1_6 => (intro w hSw; (try dsimp only at hSw); go_simp; try with_reducible rfl)
        try simp only [Act.put, List.getElem_toArray, List.getElem_cons_succ, List.getElem_cons_zero, List.setIfInBounds_toArray, List.set_cons_zero, List.set_cons_succ]
        refine wpAnyH_take (i := 7) (oi := _) (v := ?vr1_1_7) rfl (by kernel_rfl) (by kernel_rfl) (by kernel_rfl) ?hqr1_1_7 (Or.inl ⟨by kernel_rfl, ?hyr1_1_7⟩) (by assumption) ?restr1_1_7
        case hqr1_1_7 => exact fun _ _ _ h => h
        case hyr1_1_7 => (intro w hSw; (try dsimp only at hSw); go_simp; try with_reducible rfl)
        try simp only [Act.put, List.getElem_toArray, List.getElem_cons_succ, List.getElem_cons_zero, List.setIfInBounds_toArray, List.set_cons_zero, List.set_cons_succ]
        refine wpAnyH_take (i := 8) (oi := _) (v := ?vr1_1_8) rfl (by kernel_rfl) (by kernel_rfl) (by kernel_rfl) ?hqr1_1_8 (Or.inl ⟨by kernel_rfl, ?hyr1_1_8⟩) (by assumption) ?restr1_1_8
        case hqr1_1_8 => exact fun _ _ _ h => h
        case hyr1_1_8 => (intro w hSw; (try dsimp only at hSw); go_simp; try with_reducible rfl)
        try simp only [Act.put, List.getElem_toArray, List.getElem_cons_succ, List.getElem_cons_zero, List.setIfInBounds_toArray, List.set_cons_zero, List.set_cons_succ]
        refine wpAnyH_take (i := 9) (oi := _) (v := ?vr1_1_9) rfl (by kernel_rfl) (by kernel_rfl) (by kernel_rfl) ?hqr1_1_9 (Or.inl ⟨by kernel_rfl, ?hyr1_1_9⟩) (by assumption) ?restr1_1_9
        case hqr1_1_9 => exact fun _ _ _ h => h
        case hyr1_1_9 => (intro w hSw; (try dsimp only at hSw); go_simp; try with_reducible rfl)
        try simp only [Act.put, List.getElem_toArray, List.getElem_cons_succ, List.getElem_cons_zero, List.setIfInBounds_toArray, List.set_cons_zero, List.set_cons_succ]
        refine wpAnyH_take (i := 10) (oi := _) (v := ?vr1_1_10) rfl (by kernel_rfl) (by kernel_rfl) (by kernel_rfl) ?hqr1_1_10 (Or.inl ⟨by kernel_rfl, ?hyr1_1_10⟩) (by assumption) ?restr1_1_10
        case hqr1_1_10 => exact fun _ _ _ h => h
        case hyr1_1_10 => (intro w hSw; (try dsimp only at hSw); go_simp; try with_reducible rfl)
        try simp only [Act.put, List.getElem_toArray, List.getElem_cons_succ, List.getElem_cons_zero, List.setIfInBounds_toArray, List.set_cons_zero, List.set_cons_succ]
        refine wpAnyH_done (by kernel_rfl) ?_ _
        refine NoPanic.normal ?_
        go_wp2
        go_roundw
        case rel => exact ⟨k + 1, HLT.out, by go_num, HB.out.drew, ht.out⟩
        case measure => have := HLT.out; simp [intOf]; omega
      · have hf := HNO.out hxy
        have hne := fun W => col_ne x y W
        rw [decide_eq_true hxy] at hne
        unfold Col.v at hne
        go_wp2
        clear l0 m0
        refine wp_region_noPanic ?_
        refine wp_region_held_drew (S := (fun V : World => V.cell? ⟨w.heap.size, 0, none⟩ = some (.slice (some ⟨ba, oa, none⟩) a.length ca) ∧ V.cell? ⟨w.heap.size + 1, 0, none⟩ = some (.slice (some ⟨bb, ob, none⟩) b.length cb) ∧ V.cell? ⟨ba, oa + k * 4, none⟩ = some (.string x.name) ∧ V.cell? ⟨ba, oa + k * 4 + 1, none⟩ = some (.int .i64 x.t) ∧ V.cell? ⟨ba, oa + k * 4 + 2, none⟩ = some (.int .i64 x.z) ∧ V.cell? ⟨ba, oa + k * 4 + 3, none⟩ = some (.bool x.null) ∧ V.cell? ⟨bb, ob + k * 4, none⟩ = some (.string y.name) ∧ V.cell? ⟨bb, ob + k * 4 + 1, none⟩ = some (.int .i64 y.t) ∧ V.cell? ⟨bb, ob + k * 4 + 2, none⟩ = some (.int .i64 y.z) ∧ V.cell? ⟨bb, ob + k * 4 + 3, none⟩ = some (.bool y.null))) (by kernel_rfl) ?_ (fun hHr2_0 => ?_)
        · (try dsimp only); exact ⟨q0, q1, p0, p1, p2, p3, r0, r1, r2, r3⟩
        refine wpAnyH_take (i := 0) (oi := _) (v := ?vr2_1_0) rfl (by kernel_rfl) (by kernel_rfl) (by kernel_rfl) ?hqr2_1_0 (Or.inl ⟨by kernel_rfl, ?hyr2_1_0⟩) (by assumption) ?restr2_1_0
        case hqr2_1_0 => exact fun _ _ _ h => h
        case hyr2_1_0 => (intro w hSw; (try dsimp only at hSw); go_simp; try with_reducible rfl)
        try simp only [Act.put, List.getElem_toArray, List.getElem_cons_succ, List.getElem_cons_zero, List.setIfInBounds_toArray, List.set_cons_zero, List.set_cons_succ]
        refine wpAnyH_take (i := 1) (oi := _) (v := ?vr2_1_1) rfl (by kernel_rfl) (by kernel_rfl) (by kernel_rfl) ?hqr2_1_1 (Or.inl ⟨by kernel_rfl, ?hyr2_1_1⟩) (by assumption) ?restr2_1_1
        case hqr2_1_1 => exact fun _ _ _ h => h
        case hyr2_1_1 => (intro w hSw; (try dsimp only at hSw); go_simp; try with_reducible rfl)
        try simp only [Act.put, List.getElem_toArray, List.getElem_cons_succ, List.getElem_cons_zero, List.setIfInBounds_toArray, List.set_cons_zero, List.set_cons_succ]
        refine wpAnyH_take (i := 2) (oi := _) (v := ?vr2_1_2) rfl (by kernel_rfl) (by kernel_rfl) (by kernel_rfl) ?hqr2_1_2 (Or.inl ⟨by kernel_rfl, ?hyr2_1_2⟩) (by assumption) ?restr2_1_2
        case hqr2_1_2 => exact fun _ _ _ h => h
        case hyr2_1_2 => (intro w hSw; (try dsimp only at hSw); go_simp; try with_reducible rfl)
        try simp only [Act.put, List.getElem_toArray, List.getElem_cons_succ, List.getElem_cons_zero, List.setIfInBounds_toArray, List.set_cons_zero, List.set_cons_succ]
        refine wpAnyH_take (i := 3) (oi := _) (v := ?vr2_1_3) rfl (by kernel_rfl) (by kernel_rfl) (by kernel_rfl) ?hqr2_1_3 (Or.inl ⟨by kernel_rfl, ?hyr2_1_3⟩) (by assumption) ?restr2_1_3
        case hqr2_1_3 => exact fun _ _ _ h => h
        case hyr2_1_3 => (intro w hSw; (try dsimp only at hSw); go_simp; try with_reducible rfl)
        try simp only [Act.put, List.getElem_toArray, List.getElem_cons_succ, List.getElem_cons_zero, List.setIfInBounds_toArray, List.set_cons_zero, List.set_cons_succ]
        refine wpAnyH_take (i := 4) (oi := _) (v := ?vr2_1_4) rfl (by kernel_rfl) (by kernel_rfl) (by kernel_rfl) ?hqr2_1_4 (Or.inl ⟨by kernel_rfl, ?hyr2_1_4⟩) (by assumption) ?restr2_1_4
        case hqr2_1_4 => exact fun _ _ _ h => h
        case hyr2_1_4 => (intro w hSw; (try dsimp only at hSw); go_simp; try with_reducible rfl)
        try simp only [Act.put, List.getElem_toArray, List.getElem_cons_succ, List.getElem_cons_zero, List.setIfInBounds_toArray, List.set_cons_zero, List.set_cons_succ]
        refine wpAnyH_take (i := 5) (oi := _) (v := ?vr2_1_5) rfl (by kernel_rfl) (by kernel_rfl) (by kernel_rfl) ?hqr2_1_5 (Or.inl ⟨by kernel_rfl, ?hyr2_1_5⟩) (by assumption) ?restr2_1_5
        case hqr2_1_5 => exact fun _ _ _ h => h
        case hyr2_1_5 => (intro w hSw; (try dsimp only at hSw); go_simp; try with_reducible rfl)
        try simp only [Act.put, List.getElem_toArray, List.getElem_cons_succ, List.getElem_cons_zero, List.setIfInBounds_toArray, List.set_cons_zero, List.set_cons_succ]
        refine wpAnyH_take (i := 6) (oi := _) (v := ?vr2_1_6) rfl (by kernel_rfl) (by kernel_rfl) (by kernel_rfl) ?hqr2_1_6 (Or.inl ⟨by kernel_rfl, ?hyr2_1_6⟩) (by assumption) ?restr2_1_6
        case hqr2_1_6 => exact fun _ _ _ h => h
        case hyr2_1_6 => (intro w hSw; (try dsimp only at hSw); go_simp; try with_reducible rfl)
        try simp only [Act.put, List.getElem_toArray, List.getElem_cons_succ, List.getElem_cons_zero, List.setIfInBounds_toArray, List.set_cons_zero, List.set_cons_succ]
        refine wpAnyH_take (i := 7) (oi := _) (v := ?vr2_1_7) rfl (by kernel_rfl) (by kernel_rfl) (by kernel_rfl) ?hqr2_1_7 (Or.inl ⟨by kernel_rfl, ?hyr2_1_7⟩) (by assumption) ?restr2_1_7
        case hqr2_1_7 => exact fun _ _ _ h => h
        case hyr2_1_7 => (intro w hSw; (try dsimp only at hSw); go_simp; try with_reducible rfl)
        try simp only [Act.put, List.getElem_toArray, List.getElem_cons_succ, List.getElem_cons_zero, List.setIfInBounds_toArray, List.set_cons_zero, List.set_cons_succ]
        refine wpAnyH_take (i := 8) (oi := _) (v := ?vr2_1_8) rfl (by kernel_rfl) (by kernel_rfl) (by kernel_rfl) ?hqr2_1_8 (Or.inl ⟨by kernel_rfl, ?hyr2_1_8⟩) (by assumption) ?restr2_1_8
        case hqr2_1_8 => exact fun _ _ _ h => h
        case hyr2_1_8 => (intro w hSw; (try dsimp only at hSw); go_simp; try with_reducible rfl)
        try simp only [Act.put, List.getElem_toArray, List.getElem_cons_succ, List.getElem_cons_zero, List.setIfInBounds_toArray, List.set_cons_zero, List.set_cons_succ]
        refine wpAnyH_take (i := 9) (oi := _) (v := ?vr2_1_9) rfl (by kernel_rfl) (by kernel_rfl) (by kernel_rfl) ?hqr2_1_9 (Or.inl ⟨by kernel_rfl, ?hyr2_1_9⟩) (by assumption) ?restr2_1_9
        case hqr2_1_9 => exact fun _ _ _ h => h
        case hyr2_1_9 => (intro w hSw; (try dsimp only at hSw); go_simp; try with_reducible rfl)
        try simp only [Act.put, List.getElem_toArray, List.getElem_cons_succ, List.getElem_cons_zero, List.setIfInBounds_toArray, List.set_cons_zero, List.set_cons_succ]
        refine wpAnyH_take (i := 10) (oi := _) (v := ?vr2_1_10) rfl (by kernel_rfl) (by kernel_rfl) (by kernel_rfl) ?hqr2_1_10 (Or.inl ⟨by kernel_rfl, ?hyr2_1_10⟩) (by assumption) ?restr2_1_10
        case hqr2_1_10 => exact fun _ _ _ h => h
        case hyr2_1_10 => (intro w hSw; (try dsimp only at hSw); go_simp; try with_reducible rfl)
        try simp only [Act.put, List.getElem_toArray, List.getElem_cons_succ, List.getElem_cons_zero, List.setIfInBounds_toArray, List.set_cons_zero, List.set_cons_succ]
        refine wpAnyH_done (by kernel_rfl) ?_ _
        refine NoPanic.normal ?_
        go_wp2
        go_ret
        exact ⟨by first | rfl | (rw [hf]; rfl), HBW.out.drew⟩
    · obtain rfl : k = a.length := by omega
      have HRM : Hid (R = decide (ua = ub)) := by
        show _ = _
        have := HT.out
        rw [List.take_length, N1.out, List.take_length] at this
        rw [HRN.out, decide_eq_true this, Bool.true_and]
      clear HT hlt hk l0 l2 m0 m2
      obtain ⟨l0, l2, m0, m2⟩ := HCL.out _ (HB4.out.then_ HB.out)
      have HBW := Lib.hid (HW4.out.then_ HB.out)
      have HB4r := Lib.hid (HB4.out.then_ HB.out)
      go_wp2
      clear l0 l2 m0 m2
      obtain ⟨wo, rfl⟩ : ∃ wo : World, wo = wr := ⟨_, rfl⟩
      go_loopw [6] (fun i wi => ∃ k : Nat, k ≤ ua.length ∧ i = .int .i64 k ∧ Hid (Bel wo wi) ∧ Hid (ua.take k = ub.take k)) (fun i _ => ua.length - (intOf i).toNat)
      case atStart => exact ⟨0, Nat.zero_le _, rfl, Bel.refl wo, by show _ = _; simp⟩
      case round =>
        obtain ⟨wi, rfl⟩ : ∃ wi : World, wi = wr := ⟨_, rfl⟩
        obtain ⟨k, hk, rfl, HBI, HT⟩ := hrel
        obtain ⟨l0, l2, m0, m2⟩ := HCL.out _ (HB4r.out.then_ HBI.out)
        by_cases hlt : k < ua.length
        · obtain ⟨x, hx⟩ : ∃ x, ua[k]? = some x := ⟨_, List.getElem?_eq_getElem hlt⟩
          obtain ⟨y, hy⟩ : ∃ y, ub[k]? = some y := ⟨_, List.getElem?_eq_getElem (by have := N2.out; omega)⟩
          obtain ⟨bu, ou, rfl, hui⟩ := HRU.out (by omega)
          obtain ⟨bv, ov, rfl, hvi⟩ := HRV.out (by have := N2.out; omega)
          obtain ⟨u, hu0, hu1⟩ := hui k x hx
          obtain ⟨v, hv0, hv1⟩ := hvi k y hy
          have hbw : Bel w wi := HBW.out.then_ HBI.out
          have hkI : (k : Int) < ua.length := by omega
          have hkJ : (k : Int) < ub.length := by have := N2.out; omega
          have HNX : Hid (x = y → ua.take (k + 1) = ub.take (k + 1)) := fun e => by rw [List.take_add_one, List.take_add_one, hx, hy, HT.out, e]
          have HNO : Hid (¬ x = y → R = false) := fun e => by rw [HRM.out]; exact decide_eq_false (fun h => e (by rw [h, hy] at hx; exact (Option.some.inj hx).symm))
          have HEQ := Lib.hid (fun V (h : Bel wi V) => tInts3_any u v x y V (hu1.bel (hbw.then_ h)) (hv1.bel (hbw.then_ h)))
          have HLT := Lib.hid hlt
          have hS : ∀ V, Bel wi V → (fun V : World => Bel wi V ∧ V.cell? ⟨w.heap.size, 2, none⟩ = some (.slice (some ⟨bu, ou, none⟩) ua.length cu) ∧ V.cell? ⟨w.heap.size + 1, 2, none⟩ = some (.slice (some ⟨bv, ov, none⟩) ub.length cv) ∧ V.cell? ⟨bu, ou + k, none⟩ = some u ∧ V.cell? ⟨bv, ov + k, none⟩ = some v) V :=
            fun V h => ⟨h, h.c l2, h.c m2, (hbw.then_ h).c hu0, (hbw.then_ h).c hv0⟩
          have HBX := Lib.hid hbw
          clear hx hy hui hvi hlt hu0 hu1 hv0 hv1 hbw HT
          by_cases hxy : x = y
          · have ht := Lib.hid (HNX.out hxy)
            rw [decide_eq_true hxy] at HEQ
            clear hxy
            go_wp2_with fail
            refine wp_region_noPanic ?_
            refine wp_region_held_drew (S := (fun V : World => Bel wi V ∧ V.cell? ⟨w.heap.size, 2, none⟩ = some (.slice (some ⟨bu, ou, none⟩) ua.length cu) ∧ V.cell? ⟨w.heap.size + 1, 2, none⟩ = some (.slice (some ⟨bv, ov, none⟩) ub.length cv) ∧ V.cell? ⟨bu, ou + k, none⟩ = some u ∧ V.cell? ⟨bv, ov + k, none⟩ = some v)) (by kernel_rfl) ?_ (fun hHr3_0 => ?_)
            · (try dsimp only); (first | assumption | exact hS _ (Bel.refl _).drew | exact hS _ (Bel.then_ (And.left (by assumption)) hb5))
            refine wpAnyH_take (i := 0) (oi := _) (v := ?vr3_1_0) rfl (by kernel_rfl) (by kernel_rfl) (by kernel_rfl) ?hqr3_1_0 (Or.inl ⟨by kernel_rfl, ?hyr3_1_0⟩) (by assumption) ?restr3_1_0
            case hqr3_1_0 => exact fun _ _ _ h => h
            case hyr3_1_0 => (intro w hSw; (try dsimp only at hSw); go_simp; try with_reducible rfl)
            try simp only [Act.put, List.getElem_toArray, List.getElem_cons_succ, List.getElem_cons_zero, List.setIfInBounds_toArray, List.set_cons_zero, List.set_cons_succ]
            refine wpAnyH_take (i := 1) (oi := _) (v := ?vr3_1_1) rfl (by kernel_rfl) (by kernel_rfl) (by kernel_rfl) ?hqr3_1_1 (Or.inl ⟨by kernel_rfl, ?hyr3_1_1⟩) (by assumption) ?restr3_1_1
            case hqr3_1_1 => exact fun _ _ _ h => h
            case hyr3_1_1 => (intro w hSw; (try dsimp only at hSw); go_simp; try with_reducible rfl)
            try simp only [Act.put, List.getElem_toArray, List.getElem_cons_succ, List.getElem_cons_zero, List.setIfInBounds_toArray, List.set_cons_zero, List.set_cons_succ]
            refine wpAnyH_take (i := 2) (oi := _) (v := ?vr3_1_2) rfl (by kernel_rfl) (by kernel_rfl) (by kernel_rfl) ?hqr3_1_2 (Or.inl ⟨by kernel_rfl, ?hyr3_1_2⟩) (by assumption) ?restr3_1_2
            case hqr3_1_2 => exact fun _ _ _ h => h
            case hyr3_1_2 => (intro w hSw; (try dsimp only at hSw); go_simp; try with_reducible rfl)
            try simp only [Act.put, List.getElem_toArray, List.getElem_cons_succ, List.getElem_cons_zero, List.setIfInBounds_toArray, List.set_cons_zero, List.set_cons_succ]
            refine wpAnyH_take (i := 3) (oi := _) (v := ?vr3_1_3) rfl (by kernel_rfl) (by kernel_rfl) (by kernel_rfl) ?hqr3_1_3 (Or.inl ⟨by kernel_rfl, ?hyr3_1_3⟩) (by assumption) ?restr3_1_3
            case hqr3_1_3 => exact fun _ _ _ h => h
            case hyr3_1_3 => (intro w hSw; (try dsimp only at hSw); go_simp; try with_reducible rfl)
            try simp only [Act.put, List.getElem_toArray, List.getElem_cons_succ, List.getElem_cons_zero, List.setIfInBounds_toArray, List.set_cons_zero, List.set_cons_succ]
            refine wpAnyH_take (i := 4) (oi := _) (v := ?vr3_1_4) rfl (by kernel_rfl) (by kernel_rfl) (by kernel_rfl) ?hqr3_1_4 (Or.inl ⟨by kernel_rfl, ?hyr3_1_4⟩) (by assumption) ?restr3_1_4
            case hqr3_1_4 => exact fun _ _ _ h => h
            case hyr3_1_4 => (intro w hSw; (try dsimp only at hSw); go_simp; try with_reducible rfl)
            try simp only [Act.put, List.getElem_toArray, List.getElem_cons_succ, List.getElem_cons_zero, List.setIfInBounds_toArray, List.set_cons_zero, List.set_cons_succ]
            refine wpAnyH_take (i := 5) (oi := _) (v := ?vr3_1_5) rfl (by kernel_rfl) (by kernel_rfl) (by kernel_rfl) ?hqr3_1_5 (Or.inl ⟨by kernel_rfl, ?hyr3_1_5⟩) (by assumption) ?restr3_1_5
            case hqr3_1_5 => exact fun _ _ _ h => h
            case hyr3_1_5 => (intro w hSw; (try dsimp only at hSw); go_simp; try with_reducible rfl)
            try simp only [Act.put, List.getElem_toArray, List.getElem_cons_succ, List.getElem_cons_zero, List.setIfInBounds_toArray, List.set_cons_zero, List.set_cons_succ]
            refine wpAnyH_take (i := 6) (oi := _) (v := ?vr3_1_6) rfl (by kernel_rfl) (by kernel_rfl) (by kernel_rfl) ?hqr3_1_6 (Or.inl ⟨by kernel_rfl, ?hyr3_1_6⟩) (by assumption) ?restr3_1_6
            case hqr3_1_6 => exact fun _ _ _ h => h
            case hyr3_1_6 => (intro w hSw; (try dsimp only at hSw); go_simp; try with_reducible rfl)
            try simp only [Act.put, List.getElem_toArray, List.getElem_cons_succ, List.getElem_cons_zero, List.setIfInBounds_toArray, List.set_cons_zero, List.set_cons_succ]
            refine wpAnyH_take (i := 7) (oi := _) (v := ?vr3_1_7) rfl (by kernel_rfl) (by kernel_rfl) (by kernel_rfl) ?hqr3_1_7 (Or.inl ⟨by kernel_rfl, ?hyr3_1_7⟩) (by assumption) ?restr3_1_7
            case hqr3_1_7 => exact fun _ _ _ h => h
            case hyr3_1_7 => (intro w hSw; (try dsimp only at hSw); go_simp; try with_reducible rfl)
            try simp only [Act.put, List.getElem_toArray, List.getElem_cons_succ, List.getElem_cons_zero, List.setIfInBounds_toArray, List.set_cons_zero, List.set_cons_succ]
            refine wpAnyH_take (i := 8) (oi := _) (v := ?vr3_1_8) rfl (by kernel_rfl) (by kernel_rfl) (by kernel_rfl) ?hqr3_1_8 (Or.inl ⟨by kernel_rfl, ?hyr3_1_8⟩) (by assumption) ?restr3_1_8
            case hqr3_1_8 => exact fun _ _ _ h => h
            case hyr3_1_8 => (intro w hSw; (try dsimp only at hSw); go_simp; try with_reducible rfl)
            try simp only [Act.put, List.getElem_toArray, List.getElem_cons_succ, List.getElem_cons_zero, List.setIfInBounds_toArray, List.set_cons_zero, List.set_cons_succ]
            refine wpAnyH_take (i := 9) (oi := _) (v := ?vr3_1_9) rfl (by kernel_rfl) (by kernel_rfl) (by kernel_rfl) ?hqr3_1_9 (Or.inl ⟨by kernel_rfl, ?hyr3_1_9⟩) (by assumption) ?restr3_1_9
            case hqr3_1_9 => exact fun _ _ _ h => h
            case hyr3_1_9 => (intro w hSw; (try dsimp only at hSw); go_simp; try with_reducible rfl)
            try simp only [Act.put, List.getElem_toArray, List.getElem_cons_succ, List.getElem_cons_zero, List.setIfInBounds_toArray, List.set_cons_zero, List.set_cons_succ]
            refine wpAnyH_ready (rs := [10]) (by kernel_rfl) (by simp) ?_
            refine AllReadyH.cons (o := _) rfl (fun K hK => ?_) AllReadyH.nil
            go_simp
            (go_at_call 33; refine (HEQ.out _ (And.left (by assumption))).mono ?_; rintro e w5 ⟨rfl, hb5⟩)
            try (go_wp2_with fail)
            refine hK.out _ _ ?_ (fun hHr3_1 => ?_)
            · (try dsimp only); (first | assumption | exact hS _ (Bel.refl _).drew | exact hS _ (Bel.then_ (And.left (by assumption)) hb5))
            clear hK K hHr3_0
            try simp only [Act.put, List.getElem_toArray, List.getElem_cons_succ, List.getElem_cons_zero, List.setIfInBounds_toArray, List.set_cons_zero, List.set_cons_succ]
            refine wpAnyH_take (i := 11) (oi := _) (v := ?vr3_1_11) rfl (by kernel_rfl) (by kernel_rfl) (by kernel_rfl) ?hqr3_1_11 (Or.inl ⟨by kernel_rfl, ?hyr3_1_11⟩) (by assumption) ?restr3_1_11
            case hqr3_1_11 => exact fun _ _ _ h => h
            case hyr3_1_11 => (intro w hSw; (try dsimp only at hSw); go_simp; try with_reducible rfl)
            try simp only [Act.put, List.getElem_toArray, List.getElem_cons_succ, List.getElem_cons_zero, List.setIfInBounds_toArray, List.set_cons_zero, List.set_cons_succ]
            refine wpAnyH_done (by kernel_rfl) ?_ _
            refine NoPanic.normal ?_
            have hfin := And.left (by assumption)
            go_wp2
            go_roundw
            case rel => exact ⟨k + 1, HLT.out, by go_num, HBI.out.then_ hfin, ht.out⟩
            case measure => have := HLT.out; simp [intOf]; omega
          · have hf := HNO.out hxy
            rw [decide_eq_false hxy] at HEQ
            clear hxy
            go_wp2_with fail
            refine wp_region_noPanic ?_
            refine wp_region_held_drew (S := (fun V : World => Bel wi V ∧ V.cell? ⟨w.heap.size, 2, none⟩ = some (.slice (some ⟨bu, ou, none⟩) ua.length cu) ∧ V.cell? ⟨w.heap.size + 1, 2, none⟩ = some (.slice (some ⟨bv, ov, none⟩) ub.length cv) ∧ V.cell? ⟨bu, ou + k, none⟩ = some u ∧ V.cell? ⟨bv, ov + k, none⟩ = some v)) (by kernel_rfl) ?_ (fun hHr4_0 => ?_)
            · (try dsimp only); (first | assumption | exact hS _ (Bel.refl _).drew | exact hS _ (Bel.then_ (And.left (by assumption)) hb5))
            refine wpAnyH_take (i := 0) (oi := _) (v := ?vr4_1_0) rfl (by kernel_rfl) (by kernel_rfl) (by kernel_rfl) ?hqr4_1_0 (Or.inl ⟨by kernel_rfl, ?hyr4_1_0⟩) (by assumption) ?restr4_1_0
            case hqr4_1_0 => exact fun _ _ _ h => h
            case hyr4_1_0 => (intro w hSw; (try dsimp only at hSw); go_simp; try with_reducible rfl)
            try simp only [Act.put, List.getElem_toArray, List.getElem_cons_succ, List.getElem_cons_zero, List.setIfInBounds_toArray, List.set_cons_zero, List.set_cons_succ]
            refine wpAnyH_take (i := 1) (oi := _) (v := ?vr4_1_1) rfl (by kernel_rfl) (by kernel_rfl) (by kernel_rfl) ?hqr4_1_1 (Or.inl ⟨by kernel_rfl, ?hyr4_1_1⟩) (by assumption) ?restr4_1_1
            case hqr4_1_1 => exact fun _ _ _ h => h
            case hyr4_1_1 => (intro w hSw; (try dsimp only at hSw); go_simp; try with_reducible rfl)
            try simp only [Act.put, List.getElem_toArray, List.getElem_cons_succ, List.getElem_cons_zero, List.setIfInBounds_toArray, List.set_cons_zero, List.set_cons_succ]
            refine wpAnyH_take (i := 2) (oi := _) (v := ?vr4_1_2) rfl (by kernel_rfl) (by kernel_rfl) (by kernel_rfl) ?hqr4_1_2 (Or.inl ⟨by kernel_rfl, ?hyr4_1_2⟩) (by assumption) ?restr4_1_2
            case hqr4_1_2 => exact fun _ _ _ h => h
            case hyr4_1_2 => (intro w hSw; (try dsimp only at hSw); go_simp; try with_reducible rfl)
            try simp only [Act.put, List.getElem_toArray, List.getElem_cons_succ, List.getElem_cons_zero, List.setIfInBounds_toArray, List.set_cons_zero, List.set_cons_succ]
            refine wpAnyH_take (i := 3) (oi := _) (v := ?vr4_1_3) rfl (by kernel_rfl) (by kernel_rfl) (by kernel_rfl) ?hqr4_1_3 (Or.inl ⟨by kernel_rfl, ?hyr4_1_3⟩) (by assumption) ?restr4_1_3
            case hqr4_1_3 => exact fun _ _ _ h => h
            case hyr4_1_3 => (intro w hSw; (try dsimp only at hSw); go_simp; try with_reducible rfl)
            try simp only [Act.put, List.getElem_toArray, List.getElem_cons_succ, List.getElem_cons_zero, List.setIfInBounds_toArray, List.set_cons_zero, List.set_cons_succ]
            refine wpAnyH_take (i := 4) (oi := _) (v := ?vr4_1_4) rfl (by kernel_rfl) (by kernel_rfl) (by kernel_rfl) ?hqr4_1_4 (Or.inl ⟨by kernel_rfl, ?hyr4_1_4⟩) (by assumption) ?restr4_1_4
            case hqr4_1_4 => exact fun _ _ _ h => h
            case hyr4_1_4 => (intro w hSw; (try dsimp only at hSw); go_simp; try with_reducible rfl)
            try simp only [Act.put, List.getElem_toArray, List.getElem_cons_succ, List.getElem_cons_zero, List.setIfInBounds_toArray, List.set_cons_zero, List.set_cons_succ]
            refine wpAnyH_take (i := 5) (oi := _) (v := ?vr4_1_5) rfl (by kernel_rfl) (by kernel_rfl) (by kernel_rfl) ?hqr4_1_5 (Or.inl ⟨by kernel_rfl, ?hyr4_1_5⟩) (by assumption) ?restr4_1_5
            case hqr4_1_5 => exact fun _ _ _ h => h
            case hyr4_1_5 => (intro w hSw; (try dsimp only at hSw); go_simp; try with_reducible rfl)
            try simp only [Act.put, List.getElem_toArray, List.getElem_cons_succ, List.getElem_cons_zero, List.setIfInBounds_toArray, List.set_cons_zero, List.set_cons_succ]
            refine wpAnyH_take (i := 6) (oi := _) (v := ?vr4_1_6) rfl (by kernel_rfl) (by kernel_rfl) (by kernel_rfl) ?hqr4_1_6 (Or.inl ⟨by kernel_rfl, ?hyr4_1_6⟩) (by assumption) ?restr4_1_6
            case hqr4_1_6 => exact fun _ _ _ h => h
            case hyr4_1_6 => (intro w hSw; (try dsimp only at hSw); go_simp; try with_reducible rfl)
            try simp only [Act.put, List.getElem_toArray, List.getElem_cons_succ, List.getElem_cons_zero, List.setIfInBounds_toArray, List.set_cons_zero, List.set_cons_succ]
            refine wpAnyH_take (i := 7) (oi := _) (v := ?vr4_1_7) rfl (by kernel_rfl) (by kernel_rfl) (by kernel_rfl) ?hqr4_1_7 (Or.inl ⟨by kernel_rfl, ?hyr4_1_7⟩) (by assumption) ?restr4_1_7
            case hqr4_1_7 => exact fun _ _ _ h => h
            case hyr4_1_7 => (intro w hSw; (try dsimp only at hSw); go_simp; try with_reducible rfl)
            try simp only [Act.put, List.getElem_toArray, List.getElem_cons_succ, List.getElem_cons_zero, List.setIfInBounds_toArray, List.set_cons_zero, List.set_cons_succ]
            refine wpAnyH_take (i := 8) (oi := _) (v := ?vr4_1_8) rfl (by kernel_rfl) (by kernel_rfl) (by kernel_rfl) ?hqr4_1_8 (Or.inl ⟨by kernel_rfl, ?hyr4_1_8⟩) (by assumption) ?restr4_1_8
            case hqr4_1_8 => exact fun _ _ _ h => h
            case hyr4_1_8 => (intro w hSw; (try dsimp only at hSw); go_simp; try with_reducible rfl)
            try simp only [Act.put, List.getElem_toArray, List.getElem_cons_succ, List.getElem_cons_zero, List.setIfInBounds_toArray, List.set_cons_zero, List.set_cons_succ]
            refine wpAnyH_take (i := 9) (oi := _) (v := ?vr4_1_9) rfl (by kernel_rfl) (by kernel_rfl) (by kernel_rfl) ?hqr4_1_9 (Or.inl ⟨by kernel_rfl, ?hyr4_1_9⟩) (by assumption) ?restr4_1_9
            case hqr4_1_9 => exact fun _ _ _ h => h
            case hyr4_1_9 => (intro w hSw; (try dsimp only at hSw); go_simp; try with_reducible rfl)
            try simp only [Act.put, List.getElem_toArray, List.getElem_cons_succ, List.getElem_cons_zero, List.setIfInBounds_toArray, List.set_cons_zero, List.set_cons_succ]
            refine wpAnyH_ready (rs := [10]) (by kernel_rfl) (by simp) ?_
            refine AllReadyH.cons (o := _) rfl (fun K hK => ?_) AllReadyH.nil
            go_simp
            (go_at_call 33; refine (HEQ.out _ (And.left (by assumption))).mono ?_; rintro e w5 ⟨rfl, hb5⟩)
            try (go_wp2_with fail)
            refine hK.out _ _ ?_ (fun hHr4_1 => ?_)
            · (try dsimp only); (first | assumption | exact hS _ (Bel.refl _).drew | exact hS _ (Bel.then_ (And.left (by assumption)) hb5))
            clear hK K hHr4_0
            try simp only [Act.put, List.getElem_toArray, List.getElem_cons_succ, List.getElem_cons_zero, List.setIfInBounds_toArray, List.set_cons_zero, List.set_cons_succ]
            refine wpAnyH_take (i := 11) (oi := _) (v := ?vr4_1_11) rfl (by kernel_rfl) (by kernel_rfl) (by kernel_rfl) ?hqr4_1_11 (Or.inl ⟨by kernel_rfl, ?hyr4_1_11⟩) (by assumption) ?restr4_1_11
            case hqr4_1_11 => exact fun _ _ _ h => h
            case hyr4_1_11 => (intro w hSw; (try dsimp only at hSw); go_simp; try with_reducible rfl)
            try simp only [Act.put, List.getElem_toArray, List.getElem_cons_succ, List.getElem_cons_zero, List.setIfInBounds_toArray, List.set_cons_zero, List.set_cons_succ]
            refine wpAnyH_done (by kernel_rfl) ?_ _
            refine NoPanic.normal ?_
            have hfin := And.left (by assumption)
            go_wp2
            go_ret
            exact ⟨by first | rfl | (rw [hf]; rfl), HBX.out.then_ hfin⟩
        · obtain rfl : k = ua.length := by omega
          have ht : R = true := by
            rw [HRM.out]
            have := HT.out
            rw [List.take_length, N2.out, List.take_length] at this
            exact decide_eq_true this
          clear HT hlt hk l0 m0
          go_wp2
          go_ret
          exact ⟨by first | rfl | (rw [ht]; rfl), HBW.out.then_ HBI.out⟩
end Go.Proofs.YtkklmflclmgjeaaGreatDoor
