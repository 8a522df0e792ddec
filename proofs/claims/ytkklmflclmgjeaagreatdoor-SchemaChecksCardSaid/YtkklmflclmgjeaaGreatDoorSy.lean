/-
  Schema: whether lists of numbers are the same.
-/
import Derived.Test.YtkklmflclmgjeaaGreatDoorSj
set_option linter.unusedVariables false
set_option linter.unusedSimpArgs false
set_option linter.unusedVariables false
set_option linter.unusedSimpArgs false
namespace Go.Proofs.YtkklmflclmgjeaaGreatDoor
open Go.RowKit Go.Shelf Go.Lib
attribute [local go_sem] Oper.semAt_some

set_option maxRecDepth 100000 in
set_option maxHeartbeats 4000000 in
theorem slEqualInt_any (va vb : Value) (a b : List Int) (w : World) (ha : IntsAt w va a) (hb : IntsAt w vb b) : Calls Tryz.prog 62 #[va, vb] w fun e w' => e = .returned (.bool (decide (a = b))) ∧ Bel w w' := by
  obtain ⟨R, hR⟩ : ∃ R, R = decide (a = b) := ⟨_, rfl⟩
  rw [← hR]
  have HR := Lib.hid hR
  clear hR
  obtain ⟨Aa, ca, rfl, hca, hma, hra⟩ := ha
  obtain ⟨Ab, cb, rfl, hcb, hmb, hrb⟩ := hb
  have haI : (a.length : Int) ≤ 9223372036854775807 := by unfold maxLen at hma; omega
  have hbI : (b.length : Int) ≤ 9223372036854775807 := by unfold maxLen at hmb; omega
  have HRA := Lib.hid hra
  have HRB := Lib.hid hrb
  clear hra hrb hma hmb hca hcb
  by_cases hab : a.length = b.length
  · have habI : ((a.length : Int) != b.length) = false := by rw [bne_eq_false_iff_eq]; omega
    have HAB := Lib.hid hab
    clear hab
    go_enter Tryz.func62, Tryz.ntmps62
    go_wp2
    go_loopw [13] (fun i wr => ∃ k : Nat, k ≤ a.length ∧ i = .int .i64 k ∧ Hid (Bel w wr) ∧ Hid (a.take k = b.take k)) (fun i _ => a.length - (intOf i).toNat)
    case atStart => exact ⟨0, Nat.zero_le _, rfl, Bel.refl w, by show _ = _; simp⟩
    case round =>
      obtain ⟨k, hk, rfl, HB, HT⟩ := hrel
      by_cases hlt : k < a.length
      · obtain ⟨x, hx⟩ : ∃ x, a[k]? = some x := ⟨_, List.getElem?_eq_getElem hlt⟩
        obtain ⟨y, hy⟩ : ∃ y, b[k]? = some y := ⟨_, List.getElem?_eq_getElem (by have := HAB.out; omega)⟩
        obtain ⟨ba, oa, rfl, hai⟩ := HRA.out (by omega)
        obtain ⟨bb, ob, rfl, hbi⟩ := HRB.out (by have := HAB.out; omega)
        have p0 := HB.out.drew.c (hai k x hx)
        have p1 := HB.out.drew.c (hbi k y hy)
        have hkI : (k : Int) < a.length := by omega
        have hkJ : (k : Int) < b.length := by have := HAB.out; omega
        have HNX : Hid (x = y → a.take (k + 1) = b.take (k + 1)) := fun e => by rw [List.take_add_one, List.take_add_one, hx, hy, HT.out, e]
        have HNO : Hid (¬ x = y → R = false) := fun e => by rw [HR.out]; exact decide_eq_false (fun h => e (by rw [h, hy] at hx; exact (Option.some.inj hx).symm))
        have HLT := Lib.hid hlt
        clear hx hy hai hbi hlt
        by_cases hxy : x = y
        · have ht := Lib.hid (HNX.out hxy)
          subst hxy
          have hxb : (x != x) = false := by simp
          go_wp2
          refine wp_region_noPanic ?_
          refine wp_region_held_drew (S := (fun V : World => V.cell? ⟨ba, oa + k, none⟩ = some (.int .i64 x) ∧ V.cell? ⟨bb, ob + k, none⟩ = some (.int .i64 x))) (by kernel_rfl) ?_ (fun hHr1_0 => ?_)
          · (try dsimp only); exact ⟨p0, p1⟩
          refine wpAnyH_take (i := 0) (oi := _) (v := ?vr1_1_0) rfl (by kernel_rfl) (by kernel_rfl) (by kernel_rfl) ?hqr1_1_0 (Or.inl ⟨by kernel_rfl, ?hyr1_1_0⟩) (by assumption) ?restr1_1_0
          case hqr1_1_0 => exact fun _ _ _ h => h
          case hyr1_1_0 => (intro w hSw; (try dsimp only at hSw); go_simp; try with_reducible rfl)
          try simp only [Act.put, List.getElem_toArray, List.getElem_cons_succ, List.getElem_cons_zero, List.setIfInBounds_toArray, List.set_cons_zero, List.set_cons_succ]
          refine wpAnyH_take (i := 1) (oi := _) (v := ?vr1_1_1) rfl (by kernel_rfl) (by kernel_rfl) (by kernel_rfl) ?hqr1_1_1 (Or.inl ⟨by kernel_rfl, ?hyr1_1_1⟩) (by assumption) ?restr1_1_1
          case hqr1_1_1 => exact fun _ _ _ h => h
          case hyr1_1_1 => (intro w hSw; (try dsimp only at hSw); go_simp; try with_reducible rfl)
          try simp only [Act.put, List.getElem_toArray, List.getElem_cons_succ, List.getElem_cons_zero, List.setIfInBounds_toArray, List.set_cons_zero, List.set_cons_succ]
          refine wpAnyH_take (i := 2) (oi := _) (v := ?vr1_1_2) rfl (by kernel_rfl) (by kernel_rfl) (by kernel_rfl) ?hqr1_1_2 (Or.inl ⟨by kernel_rfl, ?hyr1_1_2⟩) (by assumption) ?restr1_1_2
          case hqr1_1_2 => exact fun _ _ _ h => h
          case hyr1_1_2 => (intro w hSw; (try dsimp only at hSw); go_simp; try with_reducible rfl)
          try simp only [Act.put, List.getElem_toArray, List.getElem_cons_succ, List.getElem_cons_zero, List.setIfInBounds_toArray, List.set_cons_zero, List.set_cons_succ]
          refine wpAnyH_take (i := 3) (oi := _) (v := ?vr1_1_3) rfl (by kernel_rfl) (by kernel_rfl) (by kernel_rfl) ?hqr1_1_3 (Or.inl ⟨by kernel_rfl, ?hyr1_1_3⟩) (by assumption) ?restr1_1_3
          case hqr1_1_3 => exact fun _ _ _ h => h
          case hyr1_1_3 => (intro w hSw; (try dsimp only at hSw); go_simp; try with_reducible rfl)
          try simp only [Act.put, List.getElem_toArray, List.getElem_cons_succ, List.getElem_cons_zero, List.setIfInBounds_toArray, List.set_cons_zero, List.set_cons_succ]
          refine wpAnyH_take (i := 4) (oi := _) (v := ?vr1_1_4) rfl (by kernel_rfl) (by kernel_rfl) (by kernel_rfl) ?hqr1_1_4 (Or.inl ⟨by kernel_rfl, ?hyr1_1_4⟩) (by assumption) ?restr1_1_4
          case hqr1_1_4 => exact fun _ _ _ h => h
          case hyr1_1_4 => (intro w hSw; (try dsimp only at hSw); go_simp; try with_reducible rfl)
          try simp only [Act.put, List.getElem_toArray, List.getElem_cons_succ, List.getElem_cons_zero, List.setIfInBounds_toArray, List.set_cons_zero, List.set_cons_succ]
          refine wpAnyH_take (i := 5) (oi := _) (v := ?vr1_1_5) rfl (by kernel_rfl) (by kernel_rfl) (by kernel_rfl) ?hqr1_1_5 (Or.inl ⟨by kernel_rfl, ?hyr1_1_5⟩) (by assumption) ?restr1_1_5
          case hqr1_1_5 => exact fun _ _ _ h => h
          case hyr1_1_5 => (intro w hSw; (try dsimp only at hSw); go_simp; try with_reducible rfl)
          try simp only [Act.put, List.getElem_toArray, List.getElem_cons_succ, List.getElem_cons_zero, List.setIfInBounds_toArray, List.set_cons_zero, List.set_cons_succ]
          refine wpAnyH_take (i := 6) (oi := _) (v := ?vr1_1_6) rfl (by kernel_rfl) (by kernel_rfl) (by kernel_rfl) ?hqr1_1_6 (Or.inl ⟨by kernel_rfl, ?hyr1_1_6⟩) (by assumption) ?restr1_1_6
          case hqr1_1_6 => exact fun _ _ _ h => h
          case hyr1_1_6 => (intro w hSw; (try dsimp only at hSw); go_simp; try with_reducible rfl)
          try simp only [Act.put, List.getElem_toArray, List.getElem_cons_succ, List.getElem_cons_zero, List.setIfInBounds_toArray, List.set_cons_zero, List.set_cons_succ]
          refine wpAnyH_take (i := 7) (oi := _) (v := ?vr1_1_7) rfl (by kernel_rfl) (by kernel_rfl) (by kernel_rfl) ?hqr1_1_7 (Or.inl ⟨by kernel_rfl, ?hyr1_1_7⟩) (by assumption) ?restr1_1_7
          case hqr1_1_7 => exact fun _ _ _ h => h
          case hyr1_1_7 => (intro w hSw; (try dsimp only at hSw); go_simp; try with_reducible rfl)
          try simp only [Act.put, List.getElem_toArray, List.getElem_cons_succ, List.getElem_cons_zero, List.setIfInBounds_toArray, List.set_cons_zero, List.set_cons_succ]
          refine wpAnyH_take (i := 8) (oi := _) (v := ?vr1_1_8) rfl (by kernel_rfl) (by kernel_rfl) (by kernel_rfl) ?hqr1_1_8 (Or.inl ⟨by kernel_rfl, ?hyr1_1_8⟩) (by assumption) ?restr1_1_8
          case hqr1_1_8 => exact fun _ _ _ h => h
          case hyr1_1_8 => (intro w hSw; (try dsimp only at hSw); go_simp; try with_reducible rfl)
          try simp only [Act.put, List.getElem_toArray, List.getElem_cons_succ, List.getElem_cons_zero, List.setIfInBounds_toArray, List.set_cons_zero, List.set_cons_succ]
          refine wpAnyH_done (by kernel_rfl) ?_ _
          refine NoPanic.normal ?_
          go_wp2
          go_roundw
          case rel => exact ⟨k + 1, HLT.out, by go_num, HB.out.drew, ht.out⟩
          case measure => have := HLT.out; simp [intOf]; omega
        · have hf := HNO.out hxy
          have hxb : (x != y) = true := by rw [bne_iff_ne]; exact hxy
          go_wp2
          refine wp_region_noPanic ?_
          refine wp_region_held_drew (S := (fun V : World => V.cell? ⟨ba, oa + k, none⟩ = some (.int .i64 x) ∧ V.cell? ⟨bb, ob + k, none⟩ = some (.int .i64 y))) (by kernel_rfl) ?_ (fun hHr2_0 => ?_)
          · (try dsimp only); exact ⟨p0, p1⟩
          refine wpAnyH_take (i := 0) (oi := _) (v := ?vr2_1_0) rfl (by kernel_rfl) (by kernel_rfl) (by kernel_rfl) ?hqr2_1_0 (Or.inl ⟨by kernel_rfl, ?hyr2_1_0⟩) (by assumption) ?restr2_1_0
          case hqr2_1_0 => exact fun _ _ _ h => h
          case hyr2_1_0 => (intro w hSw; (try dsimp only at hSw); go_simp; try with_reducible rfl)
          try simp only [Act.put, List.getElem_toArray, List.getElem_cons_succ, List.getElem_cons_zero, List.setIfInBounds_toArray, List.set_cons_zero, List.set_cons_succ]
          refine wpAnyH_take (i := 1) (oi := _) (v := ?vr2_1_1) rfl (by kernel_rfl) (by kernel_rfl) (by kernel_rfl) ?hqr2_1_1 (Or.inl ⟨by kernel_rfl, ?hyr2_1_1⟩) (by assumption) ?restr2_1_1
          case hqr2_1_1 => exact fun _ _ _ h => h
          case hyr2_1_1 => (intro w hSw; (try dsimp only at hSw); go_simp; try with_reducible rfl)
          try simp only [Act.put, List.getElem_toArray, List.getElem_cons_succ, List.getElem_cons_zero, List.setIfInBounds_toArray, List.set_cons_zero, List.set_cons_succ]
          refine wpAnyH_take (i := 2) (oi := _) (v := ?vr2_1_2) rfl (by kernel_rfl) (by kernel_rfl) (by kernel_rfl) ?hqr2_1_2 (Or.inl ⟨by kernel_rfl, ?hyr2_1_2⟩) (by assumption) ?restr2_1_2
          case hqr2_1_2 => exact fun _ _ _ h => h
          case hyr2_1_2 => (intro w hSw; (try dsimp only at hSw); go_simp; try with_reducible rfl)
          try simp only [Act.put, List.getElem_toArray, List.getElem_cons_succ, List.getElem_cons_zero, List.setIfInBounds_toArray, List.set_cons_zero, List.set_cons_succ]
          refine wpAnyH_take (i := 3) (oi := _) (v := ?vr2_1_3) rfl (by kernel_rfl) (by kernel_rfl) (by kernel_rfl) ?hqr2_1_3 (Or.inl ⟨by kernel_rfl, ?hyr2_1_3⟩) (by assumption) ?restr2_1_3
          case hqr2_1_3 => exact fun _ _ _ h => h
          case hyr2_1_3 => (intro w hSw; (try dsimp only at hSw); go_simp; try with_reducible rfl)
          try simp only [Act.put, List.getElem_toArray, List.getElem_cons_succ, List.getElem_cons_zero, List.setIfInBounds_toArray, List.set_cons_zero, List.set_cons_succ]
          refine wpAnyH_take (i := 4) (oi := _) (v := ?vr2_1_4) rfl (by kernel_rfl) (by kernel_rfl) (by kernel_rfl) ?hqr2_1_4 (Or.inl ⟨by kernel_rfl, ?hyr2_1_4⟩) (by assumption) ?restr2_1_4
          case hqr2_1_4 => exact fun _ _ _ h => h
          case hyr2_1_4 => (intro w hSw; (try dsimp only at hSw); go_simp; try with_reducible rfl)
          try simp only [Act.put, List.getElem_toArray, List.getElem_cons_succ, List.getElem_cons_zero, List.setIfInBounds_toArray, List.set_cons_zero, List.set_cons_succ]
          refine wpAnyH_take (i := 5) (oi := _) (v := ?vr2_1_5) rfl (by kernel_rfl) (by kernel_rfl) (by kernel_rfl) ?hqr2_1_5 (Or.inl ⟨by kernel_rfl, ?hyr2_1_5⟩) (by assumption) ?restr2_1_5
          case hqr2_1_5 => exact fun _ _ _ h => h
          case hyr2_1_5 => (intro w hSw; (try dsimp only at hSw); go_simp; try with_reducible rfl)
          try simp only [Act.put, List.getElem_toArray, List.getElem_cons_succ, List.getElem_cons_zero, List.setIfInBounds_toArray, List.set_cons_zero, List.set_cons_succ]
          refine wpAnyH_take (i := 6) (oi := _) (v := ?vr2_1_6) rfl (by kernel_rfl) (by kernel_rfl) (by kernel_rfl) ?hqr2_1_6 (Or.inl ⟨by kernel_rfl, ?hyr2_1_6⟩) (by assumption) ?restr2_1_6
          case hqr2_1_6 => exact fun _ _ _ h => h
          case hyr2_1_6 => (intro w hSw; (try dsimp only at hSw); go_simp; try with_reducible rfl)
          try simp only [Act.put, List.getElem_toArray, List.getElem_cons_succ, List.getElem_cons_zero, List.setIfInBounds_toArray, List.set_cons_zero, List.set_cons_succ]
          refine wpAnyH_take (i := 7) (oi := _) (v := ?vr2_1_7) rfl (by kernel_rfl) (by kernel_rfl) (by kernel_rfl) ?hqr2_1_7 (Or.inl ⟨by kernel_rfl, ?hyr2_1_7⟩) (by assumption) ?restr2_1_7
          case hqr2_1_7 => exact fun _ _ _ h => h
          case hyr2_1_7 => (intro w hSw; (try dsimp only at hSw); go_simp; try with_reducible rfl)
          try simp only [Act.put, List.getElem_toArray, List.getElem_cons_succ, List.getElem_cons_zero, List.setIfInBounds_toArray, List.set_cons_zero, List.set_cons_succ]
          refine wpAnyH_take (i := 8) (oi := _) (v := ?vr2_1_8) rfl (by kernel_rfl) (by kernel_rfl) (by kernel_rfl) ?hqr2_1_8 (Or.inl ⟨by kernel_rfl, ?hyr2_1_8⟩) (by assumption) ?restr2_1_8
          case hqr2_1_8 => exact fun _ _ _ h => h
          case hyr2_1_8 => (intro w hSw; (try dsimp only at hSw); go_simp; try with_reducible rfl)
          try simp only [Act.put, List.getElem_toArray, List.getElem_cons_succ, List.getElem_cons_zero, List.setIfInBounds_toArray, List.set_cons_zero, List.set_cons_succ]
          refine wpAnyH_done (by kernel_rfl) ?_ _
          refine NoPanic.normal ?_
          go_wp2
          go_ret
          exact ⟨by first | rfl | (rw [hf]; rfl), HB.out.drew⟩
      · obtain rfl : k = a.length := by omega
        have ht : R = true := by
          rw [HR.out]
          have := HT.out
          rw [List.take_length, HAB.out, List.take_length] at this
          exact decide_eq_true this
        clear HT hlt hk
        go_wp2
        go_ret
        exact ⟨by first | rfl | (rw [ht]; rfl), HB.out⟩
  · have hf : R = false := by rw [HR.out]; exact decide_eq_false (fun e => hab (by rw [e]))
    have habI : ((a.length : Int) != b.length) = true := by rw [bne_iff_ne]; omega
    go_enter Tryz.func62, Tryz.ntmps62
    go_wp2
    go_ret
    exact ⟨by first | rfl | (rw [hf]; rfl), by (repeat (first | exact Below.refl _ _ | assumption | exact Bel.refl _ | refine Bel.alloc ?_ _ | refine Bel.drew ?_ | refine Bel.drewN ?_ _ | refine Bel.then_ ?_ (by assumption) | refine Bel.setCell ?_ (by first | (simp; done) | (simp; omega)) _))⟩
set_option maxRecDepth 100000 in
set_option maxHeartbeats 4000000 in
theorem tInts3_any (va vb : Value) (a b : List Int) (w : World) (ha : IntsAt w va a) (hb : IntsAt w vb b) : Calls Tryz.prog 33 #[va, vb] w fun e w' => e = .returned (.bool (decide (a = b))) ∧ Bel w w' := by
  obtain ⟨R, hR⟩ : ∃ R, R = decide (a = b) := ⟨_, rfl⟩
  rw [← hR]
  have HR := Lib.hid hR
  clear hR
  obtain ⟨Aa, ca, rfl, hca, hma, hra⟩ := ha
  obtain ⟨Ab, cb, rfl, hcb, hmb, hrb⟩ := hb
  have haI : (a.length : Int) ≤ 9223372036854775807 := by unfold maxLen at hma; omega
  have hbI : (b.length : Int) ≤ 9223372036854775807 := by unfold maxLen at hmb; omega
  have HRA := Lib.hid hra
  have HRB := Lib.hid hrb
  clear hra hrb hma hmb hca hcb
  by_cases hab : a.length = b.length
  · have habI : ((a.length : Int) != b.length) = false := by rw [bne_eq_false_iff_eq]; omega
    have HAB := Lib.hid hab
    clear hab
    go_enter Tryz.func33, Tryz.ntmps33
    go_wp2
    go_loopw [5] (fun i wr => ∃ k : Nat, k ≤ a.length ∧ i = .int .i64 k ∧ Hid (Bel w wr) ∧ Hid (a.take k = b.take k)) (fun i _ => a.length - (intOf i).toNat)
    case atStart => exact ⟨0, Nat.zero_le _, rfl, Bel.refl w, by show _ = _; simp⟩
    case round =>
      obtain ⟨k, hk, rfl, HB, HT⟩ := hrel
      by_cases hlt : k < a.length
      · obtain ⟨x, hx⟩ : ∃ x, a[k]? = some x := ⟨_, List.getElem?_eq_getElem hlt⟩
        obtain ⟨y, hy⟩ : ∃ y, b[k]? = some y := ⟨_, List.getElem?_eq_getElem (by have := HAB.out; omega)⟩
        obtain ⟨ba, oa, rfl, hai⟩ := HRA.out (by omega)
        obtain ⟨bb, ob, rfl, hbi⟩ := HRB.out (by have := HAB.out; omega)
        have p0 := HB.out.drew.c (hai k x hx)
        have p1 := HB.out.drew.c (hbi k y hy)
        have hkI : (k : Int) < a.length := by omega
        have hkJ : (k : Int) < b.length := by have := HAB.out; omega
        have HNX : Hid (x = y → a.take (k + 1) = b.take (k + 1)) := fun e => by rw [List.take_add_one, List.take_add_one, hx, hy, HT.out, e]
        have HNO : Hid (¬ x = y → R = false) := fun e => by rw [HR.out]; exact decide_eq_false (fun h => e (by rw [h, hy] at hx; exact (Option.some.inj hx).symm))
        have HLT := Lib.hid hlt
        clear hx hy hai hbi hlt
        by_cases hxy : x = y
        · have ht := Lib.hid (HNX.out hxy)
          subst hxy
          have hxb : (x != x) = false := by simp
          go_wp2
          refine wp_region_noPanic ?_
          refine wp_region_held_drew (S := (fun V : World => V.cell? ⟨ba, oa + k, none⟩ = some (.int .i64 x) ∧ V.cell? ⟨bb, ob + k, none⟩ = some (.int .i64 x))) (by kernel_rfl) ?_ (fun hHr3_0 => ?_)
          · (try dsimp only); exact ⟨p0, p1⟩
          refine wpAnyH_take (i := 0) (oi := _) (v := ?vr3_1_0) rfl (by kernel_rfl) (by kernel_rfl) (by kernel_rfl) ?hqr3_1_0 (Or.inl ⟨by kernel_rfl, ?hyr3_1_0⟩) (by assumption) ?restr3_1_0
          case hqr3_1_0 => exact fun _ _ _ h => h
          case hyr3_1_0 => (intro w hSw; (try dsimp only at hSw); go_simp; try with_reducible rfl)
          try simp only [Act.put, List.getElem_toArray, List.getElem_cons_succ, List.getElem_cons_zero, List.setIfInBounds_toArray, List.set_cons_zero, List.set_cons_succ]
          refine wpAnyH_take (i := 1) (oi := _) (v := ?vr3_1_1) rfl (by kernel_rfl) (by kernel_rfl) (by kernel_rfl) ?hqr3_1_1 (Or.inl ⟨by kernel_rfl, ?hyr3_1_1⟩) (by assumption) ?restr3_1_1
          case hqr3_1_1 => exact fun _ _ _ h => h
          case hyr3_1_1 => (intro w hSw; (try dsimp only at hSw); go_simp; try with_reducible rfl)
          try simp only [Act.put, List.getElem_toArray, List.getElem_cons_succ, List.getElem_cons_zero, List.setIfInBounds_toArray, List.set_cons_zero, List.set_cons_succ]
          refine wpAnyH_take (i := 2) (oi := _) (v := ?vr3_1_2) rfl (by kernel_rfl) (by kernel_rfl) (by kernel_rfl) ?hqr3_1_2 (Or.inl ⟨by kernel_rfl, ?hyr3_1_2⟩) (by assumption) ?restr3_1_2
          case hqr3_1_2 => exact fun _ _ _ h => h
          case hyr3_1_2 => (intro w hSw; (try dsimp only at hSw); go_simp; try with_reducible rfl)
          try simp only [Act.put, List.getElem_toArray, List.getElem_cons_succ, List.getElem_cons_zero, List.setIfInBounds_toArray, List.set_cons_zero, List.set_cons_succ]
          refine wpAnyH_take (i := 3) (oi := _) (v := ?vr3_1_3) rfl (by kernel_rfl) (by kernel_rfl) (by kernel_rfl) ?hqr3_1_3 (Or.inl ⟨by kernel_rfl, ?hyr3_1_3⟩) (by assumption) ?restr3_1_3
          case hqr3_1_3 => exact fun _ _ _ h => h
          case hyr3_1_3 => (intro w hSw; (try dsimp only at hSw); go_simp; try with_reducible rfl)
          try simp only [Act.put, List.getElem_toArray, List.getElem_cons_succ, List.getElem_cons_zero, List.setIfInBounds_toArray, List.set_cons_zero, List.set_cons_succ]
          refine wpAnyH_take (i := 4) (oi := _) (v := ?vr3_1_4) rfl (by kernel_rfl) (by kernel_rfl) (by kernel_rfl) ?hqr3_1_4 (Or.inl ⟨by kernel_rfl, ?hyr3_1_4⟩) (by assumption) ?restr3_1_4
          case hqr3_1_4 => exact fun _ _ _ h => h
          case hyr3_1_4 => (intro w hSw; (try dsimp only at hSw); go_simp; try with_reducible rfl)
          try simp only [Act.put, List.getElem_toArray, List.getElem_cons_succ, List.getElem_cons_zero, List.setIfInBounds_toArray, List.set_cons_zero, List.set_cons_succ]
          refine wpAnyH_take (i := 5) (oi := _) (v := ?vr3_1_5) rfl (by kernel_rfl) (by kernel_rfl) (by kernel_rfl) ?hqr3_1_5 (Or.inl ⟨by kernel_rfl, ?hyr3_1_5⟩) (by assumption) ?restr3_1_5
          case hqr3_1_5 => exact fun _ _ _ h => h
          case hyr3_1_5 => (intro w hSw; (try dsimp only at hSw); go_simp; try with_reducible rfl)
          try simp only [Act.put, List.getElem_toArray, List.getElem_cons_succ, List.getElem_cons_zero, List.setIfInBounds_toArray, List.set_cons_zero, List.set_cons_succ]
          refine wpAnyH_take (i := 6) (oi := _) (v := ?vr3_1_6) rfl (by kernel_rfl) (by kernel_rfl) (by kernel_rfl) ?hqr3_1_6 (Or.inl ⟨by kernel_rfl, ?hyr3_1_6⟩) (by assumption) ?restr3_1_6
          case hqr3_1_6 => exact fun _ _ _ h => h
          case hyr3_1_6 => (intro w hSw; (try dsimp only at hSw); go_simp; try with_reducible rfl)
          try simp only [Act.put, List.getElem_toArray, List.getElem_cons_succ, List.getElem_cons_zero, List.setIfInBounds_toArray, List.set_cons_zero, List.set_cons_succ]
          refine wpAnyH_take (i := 7) (oi := _) (v := ?vr3_1_7) rfl (by kernel_rfl) (by kernel_rfl) (by kernel_rfl) ?hqr3_1_7 (Or.inl ⟨by kernel_rfl, ?hyr3_1_7⟩) (by assumption) ?restr3_1_7
          case hqr3_1_7 => exact fun _ _ _ h => h
          case hyr3_1_7 => (intro w hSw; (try dsimp only at hSw); go_simp; try with_reducible rfl)
          try simp only [Act.put, List.getElem_toArray, List.getElem_cons_succ, List.getElem_cons_zero, List.setIfInBounds_toArray, List.set_cons_zero, List.set_cons_succ]
          refine wpAnyH_take (i := 8) (oi := _) (v := ?vr3_1_8) rfl (by kernel_rfl) (by kernel_rfl) (by kernel_rfl) ?hqr3_1_8 (Or.inl ⟨by kernel_rfl, ?hyr3_1_8⟩) (by assumption) ?restr3_1_8
          case hqr3_1_8 => exact fun _ _ _ h => h
          case hyr3_1_8 => (intro w hSw; (try dsimp only at hSw); go_simp; try with_reducible rfl)
          try simp only [Act.put, List.getElem_toArray, List.getElem_cons_succ, List.getElem_cons_zero, List.setIfInBounds_toArray, List.set_cons_zero, List.set_cons_succ]
          refine wpAnyH_done (by kernel_rfl) ?_ _
          refine NoPanic.normal ?_
          go_wp2
          go_roundw
          case rel => exact ⟨k + 1, HLT.out, by go_num, HB.out.drew, ht.out⟩
          case measure => have := HLT.out; simp [intOf]; omega
        · have hf := HNO.out hxy
          have hxb : (x != y) = true := by rw [bne_iff_ne]; exact hxy
          go_wp2
          refine wp_region_noPanic ?_
          refine wp_region_held_drew (S := (fun V : World => V.cell? ⟨ba, oa + k, none⟩ = some (.int .i64 x) ∧ V.cell? ⟨bb, ob + k, none⟩ = some (.int .i64 y))) (by kernel_rfl) ?_ (fun hHr4_0 => ?_)
          · (try dsimp only); exact ⟨p0, p1⟩
          refine wpAnyH_take (i := 0) (oi := _) (v := ?vr4_1_0) rfl (by kernel_rfl) (by kernel_rfl) (by kernel_rfl) ?hqr4_1_0 (Or.inl ⟨by kernel_rfl, ?hyr4_1_0⟩) (by assumption) ?restr4_1_0
          case hqr4_1_0 => exact fun _ _ _ h => h
          case hyr4_1_0 => (intro w hSw; (try dsimp only at hSw); go_simp; try with_reducible rfl)
          try simp only [Act.put, List.getElem_toArray, List.getElem_cons_succ, List.getElem_cons_zero, List.setIfInBounds_toArray, List.set_cons_zero, List.set_cons_succ]
          refine wpAnyH_take (i := 1) (oi := _) (v := ?vr4_1_1) rfl (by kernel_rfl) (by kernel_rfl) (by kernel_rfl) ?hqr4_1_1 (Or.inl ⟨by kernel_rfl, ?hyr4_1_1⟩) (by assumption) ?restr4_1_1
          case hqr4_1_1 => exact fun _ _ _ h => h
          case hyr4_1_1 => (intro w hSw; (try dsimp only at hSw); go_simp; try with_reducible rfl)
          try simp only [Act.put, List.getElem_toArray, List.getElem_cons_succ, List.getElem_cons_zero, List.setIfInBounds_toArray, List.set_cons_zero, List.set_cons_succ]
          refine wpAnyH_take (i := 2) (oi := _) (v := ?vr4_1_2) rfl (by kernel_rfl) (by kernel_rfl) (by kernel_rfl) ?hqr4_1_2 (Or.inl ⟨by kernel_rfl, ?hyr4_1_2⟩) (by assumption) ?restr4_1_2
          case hqr4_1_2 => exact fun _ _ _ h => h
          case hyr4_1_2 => (intro w hSw; (try dsimp only at hSw); go_simp; try with_reducible rfl)
          try simp only [Act.put, List.getElem_toArray, List.getElem_cons_succ, List.getElem_cons_zero, List.setIfInBounds_toArray, List.set_cons_zero, List.set_cons_succ]
          refine wpAnyH_take (i := 3) (oi := _) (v := ?vr4_1_3) rfl (by kernel_rfl) (by kernel_rfl) (by kernel_rfl) ?hqr4_1_3 (Or.inl ⟨by kernel_rfl, ?hyr4_1_3⟩) (by assumption) ?restr4_1_3
          case hqr4_1_3 => exact fun _ _ _ h => h
          case hyr4_1_3 => (intro w hSw; (try dsimp only at hSw); go_simp; try with_reducible rfl)
          try simp only [Act.put, List.getElem_toArray, List.getElem_cons_succ, List.getElem_cons_zero, List.setIfInBounds_toArray, List.set_cons_zero, List.set_cons_succ]
          refine wpAnyH_take (i := 4) (oi := _) (v := ?vr4_1_4) rfl (by kernel_rfl) (by kernel_rfl) (by kernel_rfl) ?hqr4_1_4 (Or.inl ⟨by kernel_rfl, ?hyr4_1_4⟩) (by assumption) ?restr4_1_4
          case hqr4_1_4 => exact fun _ _ _ h => h
          case hyr4_1_4 => (intro w hSw; (try dsimp only at hSw); go_simp; try with_reducible rfl)
          try simp only [Act.put, List.getElem_toArray, List.getElem_cons_succ, List.getElem_cons_zero, List.setIfInBounds_toArray, List.set_cons_zero, List.set_cons_succ]
          refine wpAnyH_take (i := 5) (oi := _) (v := ?vr4_1_5) rfl (by kernel_rfl) (by kernel_rfl) (by kernel_rfl) ?hqr4_1_5 (Or.inl ⟨by kernel_rfl, ?hyr4_1_5⟩) (by assumption) ?restr4_1_5
          case hqr4_1_5 => exact fun _ _ _ h => h
          case hyr4_1_5 => (intro w hSw; (try dsimp only at hSw); go_simp; try with_reducible rfl)
          try simp only [Act.put, List.getElem_toArray, List.getElem_cons_succ, List.getElem_cons_zero, List.setIfInBounds_toArray, List.set_cons_zero, List.set_cons_succ]
          refine wpAnyH_take (i := 6) (oi := _) (v := ?vr4_1_6) rfl (by kernel_rfl) (by kernel_rfl) (by kernel_rfl) ?hqr4_1_6 (Or.inl ⟨by kernel_rfl, ?hyr4_1_6⟩) (by assumption) ?restr4_1_6
          case hqr4_1_6 => exact fun _ _ _ h => h
          case hyr4_1_6 => (intro w hSw; (try dsimp only at hSw); go_simp; try with_reducible rfl)
          try simp only [Act.put, List.getElem_toArray, List.getElem_cons_succ, List.getElem_cons_zero, List.setIfInBounds_toArray, List.set_cons_zero, List.set_cons_succ]
          refine wpAnyH_take (i := 7) (oi := _) (v := ?vr4_1_7) rfl (by kernel_rfl) (by kernel_rfl) (by kernel_rfl) ?hqr4_1_7 (Or.inl ⟨by kernel_rfl, ?hyr4_1_7⟩) (by assumption) ?restr4_1_7
          case hqr4_1_7 => exact fun _ _ _ h => h
          case hyr4_1_7 => (intro w hSw; (try dsimp only at hSw); go_simp; try with_reducible rfl)
          try simp only [Act.put, List.getElem_toArray, List.getElem_cons_succ, List.getElem_cons_zero, List.setIfInBounds_toArray, List.set_cons_zero, List.set_cons_succ]
          refine wpAnyH_take (i := 8) (oi := _) (v := ?vr4_1_8) rfl (by kernel_rfl) (by kernel_rfl) (by kernel_rfl) ?hqr4_1_8 (Or.inl ⟨by kernel_rfl, ?hyr4_1_8⟩) (by assumption) ?restr4_1_8
          case hqr4_1_8 => exact fun _ _ _ h => h
          case hyr4_1_8 => (intro w hSw; (try dsimp only at hSw); go_simp; try with_reducible rfl)
          try simp only [Act.put, List.getElem_toArray, List.getElem_cons_succ, List.getElem_cons_zero, List.setIfInBounds_toArray, List.set_cons_zero, List.set_cons_succ]
          refine wpAnyH_done (by kernel_rfl) ?_ _
          refine NoPanic.normal ?_
          go_wp2
          go_ret
          exact ⟨by first | rfl | (rw [hf]; rfl), HB.out.drew⟩
      · obtain rfl : k = a.length := by omega
        have ht : R = true := by
          rw [HR.out]
          have := HT.out
          rw [List.take_length, HAB.out, List.take_length] at this
          exact decide_eq_true this
        clear HT hlt hk
        go_wp2
        go_ret
        exact ⟨by first | rfl | (rw [ht]; rfl), HB.out⟩
  · have hf : R = false := by rw [HR.out]; exact decide_eq_false (fun e => hab (by rw [e]))
    have habI : ((a.length : Int) != b.length) = true := by rw [bne_iff_ne]; omega
    go_enter Tryz.func33, Tryz.ntmps33
    go_wp2
    go_ret
    exact ⟨by first | rfl | (rw [hf]; rfl), by (repeat (first | exact Below.refl _ _ | assumption | exact Bel.refl _ | refine Bel.alloc ?_ _ | refine Bel.drew ?_ | refine Bel.drewN ?_ _ | refine Bel.then_ ?_ (by assumption) | refine Bel.setCell ?_ (by first | (simp; done) | (simp; omega)) _))⟩
end Go.Proofs.YtkklmflclmgjeaaGreatDoor
