/-
  SchemaRows, its walk.
-/
import Derived.Test.YtkklmflclmgjeaaGreatDoorSv
set_option linter.unusedVariables false
set_option linter.unusedSimpArgs false
set_option linter.unusedVariables false
set_option linter.unusedSimpArgs false
namespace Go.Proofs.YtkklmflclmgjeaaGreatDoor
open Go.RowKit Go.Shelf Go.Lib
attribute [local go_sem] Oper.semAt_some

def fewB (cols : List Col) (key : List Int) (uq : List (List Int)) : Bool := decide (cols.length ≤ 12 ∧ key.length ≤ 8 ∧ uq.length ≤ 6) && (cols.all (fun c => decide (c.name.size ≤ 40)) && uq.all (fun l => decide (l.length ≤ 8)))
set_option maxRecDepth 100000 in
set_option maxHeartbeats 4000000 in
theorem mfew_any (vc vk vu : Value) (cols : List Col) (key : List Int) (uq : List (List Int)) (w : World) (hc : ColsAt w vc cols) (hk : IntsAt w vk key) (hu : ListsAt w vu uq) (hnm : ∀ c ∈ cols, c.name.size ≤ maxLen) :
    Calls Tryz.prog 14 #[.agg #[vc, vk, vu]] w fun e w' => e = .returned (.bool (fewB cols key uq)) ∧ Bel w w' := by
  obtain ⟨R, hR⟩ : ∃ R, R = fewB cols key uq := ⟨_, rfl⟩
  rw [← hR]
  have HR := Lib.hid hR
  clear hR
  have HNM := Lib.hid hnm
  obtain ⟨Ac, cc, rfl, hcc, hmc, hrc⟩ := hc
  obtain ⟨Ak, ck, rfl, hck, hmk, hrk⟩ := hk
  obtain ⟨Au, cu, rfl, hcu, hmu, hru⟩ := hu
  have HRC := Lib.hid hrc
  have HRU := Lib.hid hru
  have hnI : (cols.length : Int) ≤ 9223372036854775807 := by unfold maxLen at hmc; omega
  have huI : (uq.length : Int) ≤ 9223372036854775807 := by unfold maxLen at hmu; omega
  have hkI : (key.length : Int) ≤ 9223372036854775807 := by unfold maxLen at hmk; omega
  clear hrc hru hrk hmu hmc hmk hnm
  have hb0 : Bel w (w.alloc (.cells #[.slice Ac cols.length cc, .slice Ak key.length ck, .slice Au uq.length cu] 26)) := (Bel.refl w).alloc _
  by_cases n1 : (12 : Int) < cols.length
  · have hf : R = false := by rw [HR.out]; unfold fewB; rw [decide_eq_false (by omega)]; rfl
    go_enter Tryz.func14, Tryz.ntmps14
    go_wp2_with fail
    go_ret
    exact ⟨by first | rfl | (rw [hf]; rfl), hb0⟩
  · have n1b : decide ((12 : Int) < cols.length) = false := by simp; omega
    by_cases n2 : (8 : Int) < key.length
    · have hf : R = false := by rw [HR.out]; unfold fewB; rw [decide_eq_false (by omega)]; rfl
      go_enter Tryz.func14, Tryz.ntmps14
      go_wp2_with fail
      go_ret
      exact ⟨by first | rfl | (rw [hf]; rfl), hb0⟩
    · have n2b : decide ((8 : Int) < key.length) = false := by simp; omega
      by_cases n3 : (6 : Int) < uq.length
      · have hf : R = false := by rw [HR.out]; unfold fewB; rw [decide_eq_false (by omega)]; rfl
        go_enter Tryz.func14, Tryz.ntmps14
        go_wp2_with fail
        go_ret
        exact ⟨by first | rfl | (rw [hf]; rfl), hb0⟩
      · have n3b : decide ((6 : Int) < uq.length) = false := by simp; omega
        have HRN : Hid (R = (cols.all (fun c => decide (c.name.size ≤ 40)) && uq.all (fun l => decide (l.length ≤ 8)))) := by show _ = _; rw [HR.out]; unfold fewB; rw [decide_eq_true (by omega)]; rfl
        go_enter Tryz.func14, Tryz.ntmps14
        go_wp2
        have HB0 := Lib.hid hb0
        clear hb0
        go_loopw [3] (fun i wr => ∃ k : Nat, k ≤ cols.length ∧ i = .int .i64 k ∧ Hid (Bel (w.alloc (.cells #[.slice Ac cols.length cc, .slice Ak key.length ck, .slice Au uq.length cu] 26)) wr) ∧ Hid ((cols.take k).all (fun c => decide (c.name.size ≤ 40)) = true)) (fun i _ => cols.length - (intOf i).toNat)
        case atStart => exact ⟨0, Nat.zero_le _, rfl, Bel.refl _, by show _ = _; simp⟩
        case round =>
          obtain ⟨k, hk, rfl, HB, HT⟩ := hrel
          have l0 : wr.cell? ⟨w.heap.size, 0, none⟩ = some (.slice Ac cols.length cc) := HB.out.c (by go_simp)
          have l2 : wr.cell? ⟨w.heap.size, 2, none⟩ = some (.slice Au uq.length cu) := HB.out.c (by go_simp)
          by_cases hlt : k < cols.length
          · obtain ⟨x, hx⟩ : ∃ x, cols[k]? = some x := ⟨_, List.getElem?_eq_getElem hlt⟩
            obtain ⟨b, off, rfl, hci⟩ := HRC.out (by omega)
            have p0 := (HB0.out.then_ HB.out).c (hci k x hx).1
            have hkI2 : (k : Int) < cols.length := by omega
            have hmem := List.mem_of_getElem? hx
            have hxm := HNM.out x hmem
            have hxI : (x.name.size : Int) ≤ 9223372036854775807 := by unfold maxLen at hxm; omega
            have HJN : Hid (x.name.size ≤ 40 → (cols.take (k + 1)).all (fun c => decide (c.name.size ≤ 40)) = true) := fun e => by
              rw [List.take_add_one, hx, List.all_append, HT.out]
              simp [e]
            have HNO : Hid (¬ x.name.size ≤ 40 → R = false) := fun e => by
              rw [HRN.out, show cols.all (fun c => decide (c.name.size ≤ 40)) = false by rw [List.all_eq_false]; exact ⟨x, hmem, by simpa using e⟩]
              rfl
            clear hx hci hmem hxm
            by_cases hz : x.name.size ≤ 40
            · have hzb : decide ((40 : Int) < x.name.size) = false := by simp; omega
              have ht := Lib.hid (HJN.out hz)
              go_wp2
              go_roundw
              case rel => exact ⟨k + 1, by omega, by go_num, HB.out, ht.out⟩
              case measure => simp [intOf]; omega
            · have hzb : (40 : Int) < x.name.size := by omega
              have hf := HNO.out hz
              go_wp2
              go_ret
              exact ⟨by first | rfl | (rw [hf]; rfl), HB0.out.then_ HB.out⟩
          · obtain rfl : k = cols.length := by omega
            have HRM : Hid (R = uq.all (fun l => decide (l.length ≤ 8))) := by
              show _ = _
              have := HT.out
              rw [List.take_length] at this
              rw [HRN.out, this]; rfl
            have HBX := Lib.hid (HB0.out.then_ HB.out)
            have HL2 := Lib.hid l2
            clear HT hlt hk HRN
            go_wp2
            clear l0 l2
            go_loopw [4] (fun i wu => ∃ k : Nat, k ≤ uq.length ∧ i = .int .i64 k ∧ Hid (Bel wr wu) ∧ Hid ((uq.take k).all (fun l => decide (l.length ≤ 8)) = true)) (fun i _ => uq.length - (intOf i).toNat)
            case atStart => exact ⟨0, Nat.zero_le _, rfl, Bel.refl _, by show _ = _; simp⟩
            case round =>
              obtain ⟨j, hj, rfl, HBU, HT⟩ := hrel
              have l2 := HBU.out.c HL2.out
              by_cases hlt : j < uq.length
              · obtain ⟨y, hy⟩ : ∃ y, uq[j]? = some y := ⟨_, List.getElem?_eq_getElem hlt⟩
                obtain ⟨bu, ou, rfl, hui⟩ := HRU.out (by omega)
                obtain ⟨u, hu0, A2, c2, rfl, hc2, hm2, -⟩ := hui j y hy
                have p0 := (HBX.out.then_ HBU.out).c hu0
                have hjI : (j : Int) < uq.length := by omega
                have hyI : (y.length : Int) ≤ 9223372036854775807 := by unfold maxLen at hm2; omega
                have hmem := List.mem_of_getElem? hy
                have HJN : Hid (y.length ≤ 8 → (uq.take (j + 1)).all (fun l => decide (l.length ≤ 8)) = true) := fun e => by
                  rw [List.take_add_one, hy, List.all_append, HT.out]
                  simp [e]
                have HNO : Hid (¬ y.length ≤ 8 → R = false) := fun e => by
                  rw [HRM.out, show uq.all (fun l => decide (l.length ≤ 8)) = false by rw [List.all_eq_false]; exact ⟨y, hmem, by simpa using e⟩]
                clear hy hui hmem hu0
                by_cases hz : y.length ≤ 8
                · have hzb : decide ((8 : Int) < y.length) = false := by simp; omega
                  have ht := Lib.hid (HJN.out hz)
                  go_wp2
                  go_roundw
                  case rel => exact ⟨j + 1, by omega, by go_num, HBU.out, ht.out⟩
                  case measure => simp [intOf]; omega
                · have hzb : (8 : Int) < y.length := by omega
                  have hf := HNO.out hz
                  go_wp2
                  go_ret
                  exact ⟨by first | rfl | (rw [hf]; rfl), HBX.out.then_ HBU.out⟩
              · obtain rfl : j = uq.length := by omega
                have ht : R = true := by
                  have := HT.out
                  rw [List.take_length] at this
                  rw [HRM.out, this]
                clear HT hlt hj
                go_wp2
                go_ret
                exact ⟨by first | rfl | (rw [ht]; rfl), HBX.out.then_ HBU.out⟩
set_option maxRecDepth 100000 in
set_option maxHeartbeats 8000000 in
theorem mRows_any (vc vk vu vl : Value) (cols : List Col) (key : List Int) (uq : List (List Int)) (l : List Val) (w : World) (hg : ErrType w) (hc : ColsAt w vc cols) (hk : IntsAt w vk key) (hu : ListsAt w vu uq) (hl : ValsAt w vl l)
    (hnm : ∀ c ∈ cols, c.name.size ≤ maxLen) (hw : ∀ x ∈ l, x.Wf) (hsz : ∀ x ∈ l, x.b.size ≤ maxLen) : Calls Tryz.prog 3 #[.agg #[vc, vk, vu], vl] w fun e w' => e = .returned (.bool true) ∧ Bel w w' := by
  have hb0 : Bel w (w.alloc (.cells #[vc, vk, vu] 26)) := (Bel.refl w).alloc _
  have HFW := Lib.hid (fun V (hb : Bel w V) => mfew_any vc vk vu cols key uq V (hc.bel hb) (hk.bel hb) (hu.bel hb) hnm)
  have HSH := Lib.hid (fun V (hb : Bel w V) => mshort_any vl l V (hl.bel hb) hsz)
  have HW := Lib.hid (fun V (hb : Bel w V) => mworks_any V (hg.bel hb))
  have HSR := Lib.hid (fun V (hb : Bel w V) => scRow_any vc vk vu vl cols key uq l V (hg.bel hb) (hc.bel hb) (hk.bel hb) (hu.bel hb) (hl.bel hb) hw)
  have HTR := Lib.hid (fun V (hb : Bel w V) => tRow_any vc vk vu vl cols key uq l V (hc.bel hb) (hk.bel hb) (hu.bel hb) (hl.bel hb) hw (fun c hc => by have := hnm c hc; unfold maxLen at this; omega))
  have HCL : Hid (∀ V, Bel (w.alloc (.cells #[vc, vk, vu] 26)) V → V.cell? ⟨w.heap.size, 0, none⟩ = some vc ∧ V.cell? ⟨w.heap.size, 1, none⟩ = some vk ∧ V.cell? ⟨w.heap.size, 2, none⟩ = some vu) := fun V h => ⟨h.c (by go_simp), h.c (by go_simp), h.c (by go_simp)⟩
  clear hg hc hk hu hl hnm hw hsz
  generalize rowAll cols key uq l = r at *
  have hrr : (r == r) = true := by simp
  cases hf : fewB cols key uq
  · rw [hf] at HFW
    clear hf
    go_enter Tryz.func3, Tryz.ntmps3
    go_wp2_with (first | (go_at_call 14; refine (HFW.out _ hb0).mono ?_; rintro e w4 ⟨rfl, hb4⟩) | (go_at_call 16; refine (HW.out _ (hb0.then_ hb4)).mono ?_; rintro e w9 ⟨rfl, hb9⟩))
    go_ret
    exact ⟨rfl, (hb0.then_ hb4).then_ hb9⟩
  · rw [hf] at HFW
    clear hf
    cases hs : shortB l
    · rw [hs] at HSH
      clear hs
      go_enter Tryz.func3, Tryz.ntmps3
      go_wp2_with (first | (go_at_call 14; refine (HFW.out _ hb0).mono ?_; rintro e w4 ⟨rfl, hb4⟩) | (go_at_call 15; refine (HSH.out _ (hb0.then_ hb4)).mono ?_; rintro e w' ⟨rfl, rfl⟩) | (go_at_call 16; refine (HW.out _ (hb0.then_ hb4)).mono ?_; rintro e w9 ⟨rfl, hb9⟩))
      go_ret
      exact ⟨rfl, (hb0.then_ hb4).then_ hb9⟩
    · rw [hs] at HSH
      clear hs
      go_enter Tryz.func3, Tryz.ntmps3
      go_wp2_with (first | (go_at_call 14; refine (HFW.out _ hb0).mono ?_; rintro e w4 ⟨rfl, hb4⟩) | (go_at_call 15; refine (HSH.out _ (hb0.then_ hb4)).mono ?_; rintro e w' ⟨rfl, rfl⟩))
      have hS : ∀ V, Bel (w.alloc (.cells #[vc, vk, vu] 26)) V → (fun V : World => Bel (w.alloc (.cells #[vc, vk, vu] 26)) V ∧ V.cell? ⟨w.heap.size, 0, none⟩ = some vc ∧ V.cell? ⟨w.heap.size, 1, none⟩ = some vk ∧ V.cell? ⟨w.heap.size, 2, none⟩ = some vu) V := fun V h => ⟨h, HCL.out V h⟩
      refine wp_region_noPanic ?_
      refine wp_region_held_drew (S := (fun V : World => Bel (w.alloc (.cells #[vc, vk, vu] 26)) V ∧ V.cell? ⟨w.heap.size, 0, none⟩ = some vc ∧ V.cell? ⟨w.heap.size, 1, none⟩ = some vk ∧ V.cell? ⟨w.heap.size, 2, none⟩ = some vu)) (by kernel_rfl) ?_ (fun hHr1_0 => ?_)
      · (try dsimp only); (first | assumption | exact hS _ hb4.drew | exact hS _ (Bel.then_ (And.left (by assumption)) hb5))
      refine wpAnyH_take (i := 0) (oi := _) (v := ?vr1_1_0) rfl (by kernel_rfl) (by kernel_rfl) (by kernel_rfl) ?hqr1_1_0 (Or.inl ⟨by kernel_rfl, ?hyr1_1_0⟩) (by assumption) ?restr1_1_0
      case hqr1_1_0 => exact fun _ _ _ h => h
      case hyr1_1_0 => (intro w hSw; (try dsimp only at hSw); go_simp; try with_reducible rfl)
      try simp only [Act.put, List.getElem_toArray, List.getElem_cons_succ, List.getElem_cons_zero, List.setIfInBounds_toArray, List.set_cons_zero, List.set_cons_succ]
      refine wpAnyH_take (i := 1) (oi := _) (v := ?vr1_1_1) rfl (by kernel_rfl) (by kernel_rfl) (by kernel_rfl) ?hqr1_1_1 (Or.inl ⟨by kernel_rfl, ?hyr1_1_1⟩) (by assumption) ?restr1_1_1
      case hqr1_1_1 => exact fun _ _ _ h => h
      case hyr1_1_1 => (intro w hSw; (try dsimp only at hSw); go_simp; try with_reducible rfl)
      try simp only [Act.put, List.getElem_toArray, List.getElem_cons_succ, List.getElem_cons_zero, List.setIfInBounds_toArray, List.set_cons_zero, List.set_cons_succ]
      refine wpAnyH_take (i := 4) (oi := _) (v := ?vr1_1_4) rfl (by kernel_rfl) (by kernel_rfl) (by kernel_rfl) ?hqr1_1_4 (Or.inl ⟨by kernel_rfl, ?hyr1_1_4⟩) (by assumption) ?restr1_1_4
      case hqr1_1_4 => exact fun _ _ _ h => h
      case hyr1_1_4 => (intro w hSw; (try dsimp only at hSw); go_simp; try with_reducible rfl)
      try simp only [Act.put, List.getElem_toArray, List.getElem_cons_succ, List.getElem_cons_zero, List.setIfInBounds_toArray, List.set_cons_zero, List.set_cons_succ]
      refine wpAnyH_take (i := 5) (oi := _) (v := ?vr1_1_5) rfl (by kernel_rfl) (by kernel_rfl) (by kernel_rfl) ?hqr1_1_5 (Or.inl ⟨by kernel_rfl, ?hyr1_1_5⟩) (by assumption) ?restr1_1_5
      case hqr1_1_5 => exact fun _ _ _ h => h
      case hyr1_1_5 => (intro w hSw; (try dsimp only at hSw); go_simp; try with_reducible rfl)
      try simp only [Act.put, List.getElem_toArray, List.getElem_cons_succ, List.getElem_cons_zero, List.setIfInBounds_toArray, List.set_cons_zero, List.set_cons_succ]
      refine wpAnyH_ready (rs := [2]) (by kernel_rfl) (by simp) ?_
      refine AllReadyH.cons (o := _) rfl (fun K hK => ?_) AllReadyH.nil
      go_simp
      (go_at_call 18; refine (HSR.out _ (hb0.then_ (And.left (by assumption)))).mono ?_; rintro e w5 ⟨rfl, hb5⟩)
      try (go_wp2_with fail)
      refine hK.out _ _ ?_ (fun hHr1_1 => ?_)
      · (try dsimp only); (first | assumption | exact hS _ hb4.drew | exact hS _ (Bel.then_ (And.left (by assumption)) hb5))
      clear hK K hHr1_0
      try simp only [Act.put, List.getElem_toArray, List.getElem_cons_succ, List.getElem_cons_zero, List.setIfInBounds_toArray, List.set_cons_zero, List.set_cons_succ]
      refine wpAnyH_ready (rs := [3]) (by kernel_rfl) (by simp) ?_
      refine AllReadyH.cons (o := _) rfl (fun K hK => ?_) AllReadyH.nil
      go_simp
      (go_at_call 17; refine (mnum_any _ _).mono ?_; rintro e w' ⟨rfl, rfl⟩)
      try (go_wp2_with fail)
      refine hK.out _ _ ?_ (fun hHr1_2 => ?_)
      · (try dsimp only); (first | assumption | exact hS _ hb4.drew | exact hS _ (Bel.then_ (And.left (by assumption)) hb5))
      clear hK K hHr1_1
      try simp only [Act.put, List.getElem_toArray, List.getElem_cons_succ, List.getElem_cons_zero, List.setIfInBounds_toArray, List.set_cons_zero, List.set_cons_succ]
      refine wpAnyH_ready (rs := [6]) (by kernel_rfl) (by simp) ?_
      refine AllReadyH.cons (o := _) rfl (fun K hK => ?_) AllReadyH.nil
      go_simp
      (go_at_call 19; refine (HTR.out _ (hb0.then_ (And.left (by assumption)))).mono ?_; rintro e w5 ⟨rfl, hb5⟩)
      try (go_wp2_with fail)
      refine hK.out _ _ ?_ (fun hHr1_3 => ?_)
      · (try dsimp only); (first | assumption | exact hS _ hb4.drew | exact hS _ (Bel.then_ (And.left (by assumption)) hb5))
      clear hK K hHr1_2
      try simp only [Act.put, List.getElem_toArray, List.getElem_cons_succ, List.getElem_cons_zero, List.setIfInBounds_toArray, List.set_cons_zero, List.set_cons_succ]
      refine wpAnyH_take (i := 7) (oi := _) (v := ?vr1_1_7) rfl (by kernel_rfl) (by kernel_rfl) (by kernel_rfl) ?hqr1_1_7 (Or.inl ⟨by kernel_rfl, ?hyr1_1_7⟩) (by assumption) ?restr1_1_7
      case hqr1_1_7 => exact fun _ _ _ h => h
      case hyr1_1_7 => (intro w hSw; (try dsimp only at hSw); go_simp; try with_reducible rfl)
      try simp only [Act.put, List.getElem_toArray, List.getElem_cons_succ, List.getElem_cons_zero, List.setIfInBounds_toArray, List.set_cons_zero, List.set_cons_succ]
      refine wpAnyH_take (i := 8) (oi := _) (v := ?vr1_1_8) rfl (by kernel_rfl) (by kernel_rfl) (by kernel_rfl) ?hqr1_1_8 (Or.inl ⟨by kernel_rfl, ?hyr1_1_8⟩) (by assumption) ?restr1_1_8
      case hqr1_1_8 => exact fun _ _ _ h => h
      case hyr1_1_8 => (intro w hSw; (try dsimp only at hSw); go_simp; try with_reducible rfl)
      try simp only [Act.put, List.getElem_toArray, List.getElem_cons_succ, List.getElem_cons_zero, List.setIfInBounds_toArray, List.set_cons_zero, List.set_cons_succ]
      refine wpAnyH_ready (rs := [9]) (by kernel_rfl) (by simp) ?_
      refine AllReadyH.cons (o := _) rfl (fun K hK => ?_) AllReadyH.nil
      go_simp
      (go_at_call 16; refine (HW.out _ (hb0.then_ (And.left (by assumption)))).mono ?_; rintro e w9 ⟨rfl, hb5⟩)
      try (go_wp2_with fail)
      refine hK.out _ _ ?_ (fun hHr1_4 => ?_)
      · (try dsimp only); (first | assumption | exact hS _ hb4.drew | exact hS _ (Bel.then_ (And.left (by assumption)) hb5))
      clear hK K hHr1_3
      try simp only [Act.put, List.getElem_toArray, List.getElem_cons_succ, List.getElem_cons_zero, List.setIfInBounds_toArray, List.set_cons_zero, List.set_cons_succ]
      refine wpAnyH_take (i := 10) (oi := _) (v := ?vr1_1_10) rfl (by kernel_rfl) (by kernel_rfl) (by kernel_rfl) ?hqr1_1_10 (Or.inl ⟨by kernel_rfl, ?hyr1_1_10⟩) (by assumption) ?restr1_1_10
      case hqr1_1_10 => exact fun _ _ _ h => h
      case hyr1_1_10 => (intro w hSw; (try dsimp only at hSw); go_simp; try with_reducible rfl)
      try simp only [Act.put, List.getElem_toArray, List.getElem_cons_succ, List.getElem_cons_zero, List.setIfInBounds_toArray, List.set_cons_zero, List.set_cons_succ]
      refine wpAnyH_take (i := 11) (oi := _) (v := ?vr1_1_11) rfl (by kernel_rfl) (by kernel_rfl) (by kernel_rfl) ?hqr1_1_11 (Or.inl ⟨by kernel_rfl, ?hyr1_1_11⟩) (by assumption) ?restr1_1_11
      case hqr1_1_11 => exact fun _ _ _ h => h
      case hyr1_1_11 => (intro w hSw; (try dsimp only at hSw); go_simp; try with_reducible rfl)
      try simp only [Act.put, List.getElem_toArray, List.getElem_cons_succ, List.getElem_cons_zero, List.setIfInBounds_toArray, List.set_cons_zero, List.set_cons_succ]
      refine wpAnyH_done (by kernel_rfl) ?_ _
      refine NoPanic.normal ?_
      have hfin := hb0.then_ (And.left (by assumption))
      go_wp2
      go_ret
      exact ⟨rfl, hfin⟩
end Go.Proofs.YtkklmflclmgjeaaGreatDoor
