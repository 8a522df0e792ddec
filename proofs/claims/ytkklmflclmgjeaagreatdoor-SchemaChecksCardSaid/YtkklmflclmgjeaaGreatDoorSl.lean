/-
  The document: which schemas may be.
-/
import Derived.Test.YtkklmflclmgjeaaGreatDoorSk
set_option linter.unusedVariables false
set_option linter.unusedSimpArgs false
set_option linter.unusedVariables false
set_option linter.unusedSimpArgs false
namespace Go.Proofs.YtkklmflclmgjeaaGreatDoor
open Go.RowKit Go.Shelf Go.Lib
attribute [local go_sem] Oper.semAt_some

set_option maxRecDepth 100000 in
set_option maxHeartbeats 4000000 in
theorem tRight_any (vc vk vu : Value) (cols : List Col) (key : List Int) (uq : List (List Int)) (w : World) (hc : ColsAt w vc cols) (hk : IntsAt w vk key) (hu : ListsAt w vu uq) (hnm : ∀ c ∈ cols, c.name.size ≤ 9223372036854775807) :
    Calls Tryz.prog 31 #[.agg #[vc, vk, vu]] w fun e w' => e = .returned (.bool (rightS cols key uq)) ∧ Bel w w' := by
  obtain ⟨R, hR⟩ : ∃ R, R = rightS cols key uq := ⟨_, rfl⟩
  rw [← hR]
  have HR := Lib.hid hR
  clear hR
  have HC := Lib.hid hc
  have HK := Lib.hid hk
  have HU := Lib.hid hu
  have HNM := Lib.hid hnm
  obtain ⟨Ac, cc, rfl, hcc, hmc, hrc⟩ := hc
  obtain ⟨Ak, ck, rfl, hck, hmk, hrk⟩ := hk
  obtain ⟨Au, cu, rfl, hcu, hmu, hru⟩ := hu
  have HRC := Lib.hid hrc
  have HRK := Lib.hid hrk
  have HRU := Lib.hid hru
  have hnI : (cols.length : Int) ≤ 9223372036854775807 := by unfold maxLen at hmc; omega
  have huI : (uq.length : Int) ≤ 9223372036854775807 := by unfold maxLen at hmu; omega
  have hkI : (key.length : Int) ≤ 9223372036854775807 := by unfold maxLen at hmk; omega
  clear hrc hru hrk hmu hmc hmk hnm
  have HLS := Lib.hid (fun V v l (h : IntsAt V v l) => tset_any v l cols.length V h)
  by_cases h1 : 1 ≤ cols.length ∧ cols.length ≤ 8 ∧ uq.length ≤ 3
  · have b1 : decide ((cols.length : Int) < 1) = false := by simp; omega
    have b2 : decide ((8 : Int) < cols.length) = false := by simp; omega
    have b3 : decide ((3 : Int) < uq.length) = false := by simp; omega
    have HLS2 := Lib.hid (fun V (hb : Bel w V) => HLS.out V _ _ (HK.out.bel hb))
    cases hsb : setB key cols.length with
    | false =>
      have hf : R = false := by rw [HR.out]; unfold rightS; rw [hsb]; simp
      rw [hsb] at HLS2
      subst hf
      go_enter Tryz.func31, Tryz.ntmps31
      go_wp2_with (go_at_call 69; refine (HLS2.out _ ((Bel.refl w).alloc _)).mono ?_; rintro e w4 ⟨rfl, hb4⟩)
      go_ret
      exact ⟨rfl, ((Bel.refl w).alloc _).then_ hb4⟩
    | true =>
      rw [hsb] at HLS2
      have HSB := Lib.hid hsb
      clear hsb
      go_enter Tryz.func31, Tryz.ntmps31
      go_wp2_with (go_at_call 69; refine (HLS2.out _ ((Bel.refl w).alloc _)).mono ?_; rintro e w4 ⟨rfl, hb4⟩; have hl0 : w4.cell? ⟨w.heap.size, 0, none⟩ = some (.slice Ac cols.length cc) := hb4.c (by go_simp); have hl1 : w4.cell? ⟨w.heap.size, 1, none⟩ = some (.slice Ak key.length ck) := hb4.c (by go_simp); have hl2 : w4.cell? ⟨w.heap.size, 2, none⟩ = some (.slice Au uq.length cu) := hb4.c (by go_simp); have hw4 : Bel w w4 := ((Bel.refl w).alloc _).then_ hb4)
      obtain ⟨b, off, hA, hci⟩ := HRC.out (by omega)
      subst hA
      have HCI := Lib.hid hci
      have HW4 := Lib.hid hw4
      have HL0 := Lib.hid hl0
      have HL1 := Lib.hid hl1
      have HL2 := Lib.hid hl2
      clear hci hb4 hw4 hl0 hl1 hl2 HLS2
      go_loopw [4] (fun i wr => ∃ k : Nat, k ≤ cols.length ∧ i = .int .i64 k ∧ Hid (Bel w4 wr) ∧ Hid (∀ j, j < k → colB cols j = true)) (fun i _ => cols.length - (intOf i).toNat)
      case atStart => exact ⟨0, Nat.zero_le _, rfl, Bel.refl w4, fun j hj => by omega⟩
      case round =>
        obtain ⟨k, hk, rfl, HB, HT⟩ := hrel
        have hl0 := HB.out.c HL0.out
        by_cases hlt : k < cols.length
        · obtain ⟨x, hx⟩ : ∃ x, cols[k]? = some x := ⟨_, List.getElem?_eq_getElem hlt⟩
          obtain ⟨q0, q1, q2, q3⟩ := HCI.out k x hx
          have hbw : Bel w wr := HW4.out.then_ HB.out
          have p0 := hbw.c q0
          have p1 := hbw.c q1
          have p2 := hbw.c q2
          have p3 := hbw.c q3
          have hkI : (k : Int) < cols.length := by omega
          have HCB : Hid (colB cols k = (rightB x && !(cols.take k).any (fun o => decide (o.name = x.name)))) := by show _ = _; unfold colB; rw [hx]
          have HNX : Hid (colB cols k = true → ∀ j, j < k + 1 → colB cols j = true) := fun e j hj => by
            by_cases ej : j = k
            · subst ej; exact e
            · exact HT.out j (by omega)
          have HNO : Hid (colB cols k = false → R = false) := fun e => by
            rw [HR.out]; unfold rightS
            have : (List.range cols.length).all (colB cols) = false := by rw [List.all_eq_false]; exact ⟨k, List.mem_range.2 hlt, by simp [e]⟩
            rw [this]; simp
          have HRI := Lib.hid (tcolumn_any x (HNM.out x (List.mem_of_getElem? hx)) wr)
          have HBW := Lib.hid hbw
          clear hx q1 q2 q3 hbw
          unfold Col.v at HRI
          cases hrb : rightB x with
          | false =>
            have hf : R = false := HNO.out (by rw [HCB.out, hrb]; rfl)
            rw [hrb] at HRI
            clear hrb
            go_wp2_with (go_at_call 56; refine HRI.out.mono ?_; rintro e w5 ⟨rfl, hb5⟩)
            go_ret
            exact ⟨by first | rfl | (rw [hf]; rfl), HBW.out.then_ hb5⟩
          | true =>
            rw [hrb] at HRI HCB
            clear hrb
            go_wp2_with (go_at_call 56; refine HRI.out.mono ?_; rintro e w5 ⟨rfl, hb5⟩)
            have HB5 := Lib.hid (HBW.out.then_ hb5)
            have HB45 := Lib.hid (HB.out.then_ hb5)
            clear hb5 p0 p1 p2 p3 hl0
            go_loopw [5] (fun i wi => ∃ j : Nat, j ≤ k ∧ i = .int .i64 j ∧ Hid ((cols.take j).any (fun o => decide (o.name = x.name)) = false) ∧ Hid (Bel w5 wi)) (fun i _ => k - (intOf i).toNat)
            case atStart => exact ⟨0, Nat.zero_le _, rfl, (by show _ = _; simp), Bel.refl w5⟩
            case round =>
              rename_i wi
              obtain ⟨j, hj, rfl, HJ, HBI⟩ := hrel
              by_cases hjk : j < k
              · obtain ⟨y, hy⟩ : ∃ y, cols[j]? = some y := ⟨_, List.getElem?_eq_getElem (by omega)⟩
                have hl0 := (HB45.out.then_ HBI.out).drew.c HL0.out
                have hn1 := (HB5.out.then_ HBI.out).drew.c (HCI.out j y hy).1
                have hn2 := (HB5.out.then_ HBI.out).drew.c q0
                have hjI : (j : Int) < k := by omega
                have hjl : (j : Int) < cols.length := by omega
                have HHIT : Hid (y.name = x.name → (cols.take k).any (fun o => decide (o.name = x.name)) = true) := fun e => List.any_eq_true.2 ⟨y, List.mem_of_getElem? (i := j) (by rw [List.getElem?_take, if_pos hjk]; exact hy), decide_eq_true e⟩
                have HJN : Hid (¬ y.name = x.name → (cols.take (j + 1)).any (fun o => decide (o.name = x.name)) = false) := fun e => by
                  rw [List.take_add_one, hy, List.any_append, HJ.out]
                  simp [e]
                have hse := str_beq y.name x.name
                clear hy
                by_cases hxy : y.name = x.name
                · have hf : R = false := HNO.out (by rw [HCB.out, HHIT.out hxy]; rfl)
                  rw [decide_eq_true hxy] at hse
                  go_wp2
                  refine wp_region_noPanic ?_
                  refine wp_region_held_drew (S := (fun V : World => V.cell? ⟨w.heap.size, 0, none⟩ = some (.slice (some ⟨b, off, none⟩) cols.length cc) ∧ V.cell? ⟨b, off + j * 4, none⟩ = some (.string y.name) ∧ V.cell? ⟨b, off + k * 4, none⟩ = some (.string x.name))) (by kernel_rfl) ?_ (fun hHr1_0 => ?_)
                  · (try dsimp only); exact ⟨hl0, hn1, hn2⟩
                  refine wpAnyH_take (i := 0) (oi := _) (v := ?vr1_1_0) rfl (by kernel_rfl) (by kernel_rfl) (by kernel_rfl) ?hqr1_1_0 (Or.inl ⟨by kernel_rfl, ?hyr1_1_0⟩) (by assumption) ?restr1_1_0
                  case hqr1_1_0 => exact fun _ _ _ h => h
                  case hyr1_1_0 => (intro w hSw; (try dsimp only at hSw); go_simp; try with_reducible rfl)
                  try simp only [Act.put, List.getElem_toArray, List.getElem_cons_succ, List.getElem_cons_zero, List.setIfInBounds_toArray, List.set_cons_zero, List.set_cons_succ]
                  refine wpAnyH_take (i := 1) (oi := _) (v := ?vr1_1_1) rfl (by kernel_rfl) (by kernel_rfl) (by kernel_rfl) ?hqr1_1_1 (Or.inl ⟨by kernel_rfl, ?hyr1_1_1⟩) (by assumption) ?restr1_1_1
                  case hqr1_1_1 => exact fun _ _ _ h => h
                  case hyr1_1_1 => (intro w hSw; (try dsimp only at hSw); go_simp; try with_reducible rfl)
                  try simp only [Act.put, List.getElem_toArray, List.getElem_cons_succ, List.getElem_cons_zero, List.setIfInBounds_toArray, List.set_cons_zero, List.set_cons_succ]
                  refine wpAnyH_take (i := 2) (oi := _) (v := ?vr1_1_2) rfl (by kernel_rfl) (by kernel_rfl) (by kernel_rfl) ?hqr1_1_2 (Or.inl ⟨by kernel_rfl, ?hyr1_1_2⟩) (by assumption) ?restr1_1_2
                  case hqr1_1_2 => exact fun _ _ _ h => h
                  case hyr1_1_2 => (intro w hSw; (try dsimp only at hSw); go_simp; try with_reducible rfl)
                  try simp only [Act.put, List.getElem_toArray, List.getElem_cons_succ, List.getElem_cons_zero, List.setIfInBounds_toArray, List.set_cons_zero, List.set_cons_succ]
                  refine wpAnyH_take (i := 3) (oi := _) (v := ?vr1_1_3) rfl (by kernel_rfl) (by kernel_rfl) (by kernel_rfl) ?hqr1_1_3 (Or.inl ⟨by kernel_rfl, ?hyr1_1_3⟩) (by assumption) ?restr1_1_3
                  case hqr1_1_3 => exact fun _ _ _ h => h
                  case hyr1_1_3 => (intro w hSw; (try dsimp only at hSw); go_simp; try with_reducible rfl)
                  try simp only [Act.put, List.getElem_toArray, List.getElem_cons_succ, List.getElem_cons_zero, List.setIfInBounds_toArray, List.set_cons_zero, List.set_cons_succ]
                  refine wpAnyH_take (i := 4) (oi := _) (v := ?vr1_1_4) rfl (by kernel_rfl) (by kernel_rfl) (by kernel_rfl) ?hqr1_1_4 (Or.inl ⟨by kernel_rfl, ?hyr1_1_4⟩) (by assumption) ?restr1_1_4
                  case hqr1_1_4 => exact fun _ _ _ h => h
                  case hyr1_1_4 => (intro w hSw; (try dsimp only at hSw); go_simp; try with_reducible rfl)
                  try simp only [Act.put, List.getElem_toArray, List.getElem_cons_succ, List.getElem_cons_zero, List.setIfInBounds_toArray, List.set_cons_zero, List.set_cons_succ]
                  refine wpAnyH_take (i := 5) (oi := _) (v := ?vr1_1_5) rfl (by kernel_rfl) (by kernel_rfl) (by kernel_rfl) ?hqr1_1_5 (Or.inl ⟨by kernel_rfl, ?hyr1_1_5⟩) (by assumption) ?restr1_1_5
                  case hqr1_1_5 => exact fun _ _ _ h => h
                  case hyr1_1_5 => (intro w hSw; (try dsimp only at hSw); go_simp; try with_reducible rfl)
                  try simp only [Act.put, List.getElem_toArray, List.getElem_cons_succ, List.getElem_cons_zero, List.setIfInBounds_toArray, List.set_cons_zero, List.set_cons_succ]
                  refine wpAnyH_take (i := 6) (oi := _) (v := ?vr1_1_6) rfl (by kernel_rfl) (by kernel_rfl) (by kernel_rfl) ?hqr1_1_6 (Or.inl ⟨by kernel_rfl, ?hyr1_1_6⟩) (by assumption) ?restr1_1_6
                  case hqr1_1_6 => exact fun _ _ _ h => h
                  case hyr1_1_6 => (intro w hSw; (try dsimp only at hSw); go_simp; try with_reducible rfl)
                  try simp only [Act.put, List.getElem_toArray, List.getElem_cons_succ, List.getElem_cons_zero, List.setIfInBounds_toArray, List.set_cons_zero, List.set_cons_succ]
                  refine wpAnyH_take (i := 7) (oi := _) (v := ?vr1_1_7) rfl (by kernel_rfl) (by kernel_rfl) (by kernel_rfl) ?hqr1_1_7 (Or.inl ⟨by kernel_rfl, ?hyr1_1_7⟩) (by assumption) ?restr1_1_7
                  case hqr1_1_7 => exact fun _ _ _ h => h
                  case hyr1_1_7 => (intro w hSw; (try dsimp only at hSw); go_simp; try with_reducible rfl)
                  try simp only [Act.put, List.getElem_toArray, List.getElem_cons_succ, List.getElem_cons_zero, List.setIfInBounds_toArray, List.set_cons_zero, List.set_cons_succ]
                  refine wpAnyH_take (i := 8) (oi := _) (v := ?vr1_1_8) rfl (by kernel_rfl) (by kernel_rfl) (by kernel_rfl) ?hqr1_1_8 (Or.inl ⟨by kernel_rfl, ?hyr1_1_8⟩) (by assumption) ?restr1_1_8
                  case hqr1_1_8 => exact fun _ _ _ h => h
                  case hyr1_1_8 => (intro w hSw; (try dsimp only at hSw); go_simp; try with_reducible rfl)
                  try simp only [Act.put, List.getElem_toArray, List.getElem_cons_succ, List.getElem_cons_zero, List.setIfInBounds_toArray, List.set_cons_zero, List.set_cons_succ]
                  refine wpAnyH_take (i := 9) (oi := _) (v := ?vr1_1_9) rfl (by kernel_rfl) (by kernel_rfl) (by kernel_rfl) ?hqr1_1_9 (Or.inl ⟨by kernel_rfl, ?hyr1_1_9⟩) (by assumption) ?restr1_1_9
                  case hqr1_1_9 => exact fun _ _ _ h => h
                  case hyr1_1_9 => (intro w hSw; (try dsimp only at hSw); go_simp; try with_reducible rfl)
                  try simp only [Act.put, List.getElem_toArray, List.getElem_cons_succ, List.getElem_cons_zero, List.setIfInBounds_toArray, List.set_cons_zero, List.set_cons_succ]
                  refine wpAnyH_take (i := 10) (oi := _) (v := ?vr1_1_10) rfl (by kernel_rfl) (by kernel_rfl) (by kernel_rfl) ?hqr1_1_10 (Or.inl ⟨by kernel_rfl, ?hyr1_1_10⟩) (by assumption) ?restr1_1_10
                  case hqr1_1_10 => exact fun _ _ _ h => h
                  case hyr1_1_10 => (intro w hSw; (try dsimp only at hSw); go_simp; try with_reducible rfl)
                  try simp only [Act.put, List.getElem_toArray, List.getElem_cons_succ, List.getElem_cons_zero, List.setIfInBounds_toArray, List.set_cons_zero, List.set_cons_succ]
                  refine wpAnyH_take (i := 11) (oi := _) (v := ?vr1_1_11) rfl (by kernel_rfl) (by kernel_rfl) (by kernel_rfl) ?hqr1_1_11 (Or.inl ⟨by kernel_rfl, ?hyr1_1_11⟩) (by assumption) ?restr1_1_11
                  case hqr1_1_11 => exact fun _ _ _ h => h
                  case hyr1_1_11 => (intro w hSw; (try dsimp only at hSw); go_simp; try with_reducible rfl)
                  try simp only [Act.put, List.getElem_toArray, List.getElem_cons_succ, List.getElem_cons_zero, List.setIfInBounds_toArray, List.set_cons_zero, List.set_cons_succ]
                  refine wpAnyH_take (i := 12) (oi := _) (v := ?vr1_1_12) rfl (by kernel_rfl) (by kernel_rfl) (by kernel_rfl) ?hqr1_1_12 (Or.inl ⟨by kernel_rfl, ?hyr1_1_12⟩) (by assumption) ?restr1_1_12
                  case hqr1_1_12 => exact fun _ _ _ h => h
                  case hyr1_1_12 => (intro w hSw; (try dsimp only at hSw); go_simp; try with_reducible rfl)
                  try simp only [Act.put, List.getElem_toArray, List.getElem_cons_succ, List.getElem_cons_zero, List.setIfInBounds_toArray, List.set_cons_zero, List.set_cons_succ]
                  refine wpAnyH_done (by kernel_rfl) ?_ _
                  refine NoPanic.normal ?_
                  go_wp2
                  go_ret
                  exact ⟨by first | rfl | (rw [hf]; rfl), (HB5.out.then_ HBI.out).drew⟩
                · rw [decide_eq_false hxy] at hse
                  go_wp2
                  refine wp_region_noPanic ?_
                  refine wp_region_held_drew (S := (fun V : World => V.cell? ⟨w.heap.size, 0, none⟩ = some (.slice (some ⟨b, off, none⟩) cols.length cc) ∧ V.cell? ⟨b, off + j * 4, none⟩ = some (.string y.name) ∧ V.cell? ⟨b, off + k * 4, none⟩ = some (.string x.name))) (by kernel_rfl) ?_ (fun hHr2_0 => ?_)
                  · (try dsimp only); exact ⟨hl0, hn1, hn2⟩
                  refine wpAnyH_take (i := 0) (oi := _) (v := ?vr2_1_0) rfl (by kernel_rfl) (by kernel_rfl) (by kernel_rfl) ?hqr2_1_0 (Or.inl ⟨by kernel_rfl, ?hyr2_1_0⟩) (by assumption) ?restr2_1_0
                  case hqr2_1_0 => exact fun _ _ _ h => h
                  case hyr2_1_0 => (intro w hSw; (try dsimp only at hSw); go_simp; try with_reducible rfl)
                  try simp only [Act.put, List.getElem_toArray, List.getElem_cons_succ, List.getElem_cons_zero, List.setIfInBounds_toArray, List.set_cons_zero, List.set_cons_succ]
                  refine wpAnyH_take (i := 1) (oi := _) (v := ?vr2_1_1) rfl (by kernel_rfl) (by kernel_rfl) (by kernel_rfl) ?hqr2_1_1 (Or.inl ⟨by kernel_rfl, ?hyr2_1_1⟩) (by assumption) ?restr2_1_1
                  case hqr2_1_1 => exact fun _ _ _ h => h
                  case hyr2_1_1 => (intro w hSw; (try dsimp only at hSw); go_simp; try with_reducible rfl)
                  try simp only [Act.put, List.getElem_toArray, List.getElem_cons_succ, List.getElem_cons_zero, List.setIfInBounds_toArray, List.set_cons_zero, List.set_cons_succ]
                  refine wpAnyH_take (i := 2) (oi := _) (v := ?vr2_1_2) rfl (by kernel_rfl) (by kernel_rfl) (by kernel_rfl) ?hqr2_1_2 (Or.inl ⟨by kernel_rfl, ?hyr2_1_2⟩) (by assumption) ?restr2_1_2
                  case hqr2_1_2 => exact fun _ _ _ h => h
                  case hyr2_1_2 => (intro w hSw; (try dsimp only at hSw); go_simp; try with_reducible rfl)
                  try simp only [Act.put, List.getElem_toArray, List.getElem_cons_succ, List.getElem_cons_zero, List.setIfInBounds_toArray, List.set_cons_zero, List.set_cons_succ]
                  refine wpAnyH_take (i := 3) (oi := _) (v := ?vr2_1_3) rfl (by kernel_rfl) (by kernel_rfl) (by kernel_rfl) ?hqr2_1_3 (Or.inl ⟨by kernel_rfl, ?hyr2_1_3⟩) (by assumption) ?restr2_1_3
                  case hqr2_1_3 => exact fun _ _ _ h => h
                  case hyr2_1_3 => (intro w hSw; (try dsimp only at hSw); go_simp; try with_reducible rfl)
                  try simp only [Act.put, List.getElem_toArray, List.getElem_cons_succ, List.getElem_cons_zero, List.setIfInBounds_toArray, List.set_cons_zero, List.set_cons_succ]
                  refine wpAnyH_take (i := 4) (oi := _) (v := ?vr2_1_4) rfl (by kernel_rfl) (by kernel_rfl) (by kernel_rfl) ?hqr2_1_4 (Or.inl ⟨by kernel_rfl, ?hyr2_1_4⟩) (by assumption) ?restr2_1_4
                  case hqr2_1_4 => exact fun _ _ _ h => h
                  case hyr2_1_4 => (intro w hSw; (try dsimp only at hSw); go_simp; try with_reducible rfl)
                  try simp only [Act.put, List.getElem_toArray, List.getElem_cons_succ, List.getElem_cons_zero, List.setIfInBounds_toArray, List.set_cons_zero, List.set_cons_succ]
                  refine wpAnyH_take (i := 5) (oi := _) (v := ?vr2_1_5) rfl (by kernel_rfl) (by kernel_rfl) (by kernel_rfl) ?hqr2_1_5 (Or.inl ⟨by kernel_rfl, ?hyr2_1_5⟩) (by assumption) ?restr2_1_5
                  case hqr2_1_5 => exact fun _ _ _ h => h
                  case hyr2_1_5 => (intro w hSw; (try dsimp only at hSw); go_simp; try with_reducible rfl)
                  try simp only [Act.put, List.getElem_toArray, List.getElem_cons_succ, List.getElem_cons_zero, List.setIfInBounds_toArray, List.set_cons_zero, List.set_cons_succ]
                  refine wpAnyH_take (i := 6) (oi := _) (v := ?vr2_1_6) rfl (by kernel_rfl) (by kernel_rfl) (by kernel_rfl) ?hqr2_1_6 (Or.inl ⟨by kernel_rfl, ?hyr2_1_6⟩) (by assumption) ?restr2_1_6
                  case hqr2_1_6 => exact fun _ _ _ h => h
                  case hyr2_1_6 => (intro w hSw; (try dsimp only at hSw); go_simp; try with_reducible rfl)
                  try simp only [Act.put, List.getElem_toArray, List.getElem_cons_succ, List.getElem_cons_zero, List.setIfInBounds_toArray, List.set_cons_zero, List.set_cons_succ]
                  refine wpAnyH_take (i := 7) (oi := _) (v := ?vr2_1_7) rfl (by kernel_rfl) (by kernel_rfl) (by kernel_rfl) ?hqr2_1_7 (Or.inl ⟨by kernel_rfl, ?hyr2_1_7⟩) (by assumption) ?restr2_1_7
                  case hqr2_1_7 => exact fun _ _ _ h => h
                  case hyr2_1_7 => (intro w hSw; (try dsimp only at hSw); go_simp; try with_reducible rfl)
                  try simp only [Act.put, List.getElem_toArray, List.getElem_cons_succ, List.getElem_cons_zero, List.setIfInBounds_toArray, List.set_cons_zero, List.set_cons_succ]
                  refine wpAnyH_take (i := 8) (oi := _) (v := ?vr2_1_8) rfl (by kernel_rfl) (by kernel_rfl) (by kernel_rfl) ?hqr2_1_8 (Or.inl ⟨by kernel_rfl, ?hyr2_1_8⟩) (by assumption) ?restr2_1_8
                  case hqr2_1_8 => exact fun _ _ _ h => h
                  case hyr2_1_8 => (intro w hSw; (try dsimp only at hSw); go_simp; try with_reducible rfl)
                  try simp only [Act.put, List.getElem_toArray, List.getElem_cons_succ, List.getElem_cons_zero, List.setIfInBounds_toArray, List.set_cons_zero, List.set_cons_succ]
                  refine wpAnyH_take (i := 9) (oi := _) (v := ?vr2_1_9) rfl (by kernel_rfl) (by kernel_rfl) (by kernel_rfl) ?hqr2_1_9 (Or.inl ⟨by kernel_rfl, ?hyr2_1_9⟩) (by assumption) ?restr2_1_9
                  case hqr2_1_9 => exact fun _ _ _ h => h
                  case hyr2_1_9 => (intro w hSw; (try dsimp only at hSw); go_simp; try with_reducible rfl)
                  try simp only [Act.put, List.getElem_toArray, List.getElem_cons_succ, List.getElem_cons_zero, List.setIfInBounds_toArray, List.set_cons_zero, List.set_cons_succ]
                  refine wpAnyH_take (i := 10) (oi := _) (v := ?vr2_1_10) rfl (by kernel_rfl) (by kernel_rfl) (by kernel_rfl) ?hqr2_1_10 (Or.inl ⟨by kernel_rfl, ?hyr2_1_10⟩) (by assumption) ?restr2_1_10
                  case hqr2_1_10 => exact fun _ _ _ h => h
                  case hyr2_1_10 => (intro w hSw; (try dsimp only at hSw); go_simp; try with_reducible rfl)
                  try simp only [Act.put, List.getElem_toArray, List.getElem_cons_succ, List.getElem_cons_zero, List.setIfInBounds_toArray, List.set_cons_zero, List.set_cons_succ]
                  refine wpAnyH_take (i := 11) (oi := _) (v := ?vr2_1_11) rfl (by kernel_rfl) (by kernel_rfl) (by kernel_rfl) ?hqr2_1_11 (Or.inl ⟨by kernel_rfl, ?hyr2_1_11⟩) (by assumption) ?restr2_1_11
                  case hqr2_1_11 => exact fun _ _ _ h => h
                  case hyr2_1_11 => (intro w hSw; (try dsimp only at hSw); go_simp; try with_reducible rfl)
                  try simp only [Act.put, List.getElem_toArray, List.getElem_cons_succ, List.getElem_cons_zero, List.setIfInBounds_toArray, List.set_cons_zero, List.set_cons_succ]
                  refine wpAnyH_take (i := 12) (oi := _) (v := ?vr2_1_12) rfl (by kernel_rfl) (by kernel_rfl) (by kernel_rfl) ?hqr2_1_12 (Or.inl ⟨by kernel_rfl, ?hyr2_1_12⟩) (by assumption) ?restr2_1_12
                  case hqr2_1_12 => exact fun _ _ _ h => h
                  case hyr2_1_12 => (intro w hSw; (try dsimp only at hSw); go_simp; try with_reducible rfl)
                  try simp only [Act.put, List.getElem_toArray, List.getElem_cons_succ, List.getElem_cons_zero, List.setIfInBounds_toArray, List.set_cons_zero, List.set_cons_succ]
                  refine wpAnyH_done (by kernel_rfl) ?_ _
                  refine NoPanic.normal ?_
                  go_wp2
                  go_roundw
                  case rel => exact ⟨j + 1, by omega, by go_num, HJN.out hxy, HBI.out.drew⟩
                  case measure => simp [intOf]; omega
              · obtain rfl : j = k := by omega
                have ht := HNX.out (by rw [HCB.out, HJ.out]; rfl)
                have HTT := Lib.hid ht
                clear ht HJ
                go_wp2
                go_roundw
                case rel => exact ⟨j + 1, by omega, by go_num, HB45.out.then_ HBI.out, HTT.out⟩
                case measure => simp [intOf]; omega
        · obtain rfl : k = cols.length := by omega
          have hl1 := HB.out.c HL1.out
          have hl2 := HB.out.c HL2.out
          have HRN : Hid (R = (!key.any (nullAt cols) && !uq.any (fun l => !setB l cols.length))) := by
            show _ = _
            rw [HR.out]; unfold rightS
            have : (List.range cols.length).all (colB cols) = true := by rw [List.all_eq_true]; exact fun i hi => HT.out i (List.mem_range.1 hi)
            rw [decide_eq_true h1, HSB.out, this]; rfl
          clear HT hlt hk
          go_wp2
          have HBW := Lib.hid (HW4.out.then_ HB.out)
          have HL0r := Lib.hid hl0
          have HL1r := Lib.hid hl1
          have HL2r := Lib.hid hl2
          clear hl0 hl1 hl2
          go_loopw [6] (fun i wi => ∃ j : Nat, j ≤ key.length ∧ i = .int .i64 j ∧ Hid ((key.take j).any (nullAt cols) = false) ∧ Hid (Bel wr wi)) (fun i _ => key.length - (intOf i).toNat)
          case atStart => exact ⟨0, Nat.zero_le _, rfl, (by show _ = _; simp), Bel.refl wr⟩
          case round =>
            rename_i wi
            obtain ⟨j, hj, rfl, HJ, HBI⟩ := hrel
            have hl1 := HBI.out.c HL1r.out
            by_cases hjk : j < key.length
            · obtain ⟨y, hy⟩ : ∃ y, key[j]? = some y := ⟨_, List.getElem?_eq_getElem hjk⟩
              obtain ⟨bk, ok, rfl, hki⟩ := HRK.out (by omega)
              obtain ⟨g0, g1⟩ := setB_in HSB.out y (List.mem_of_getElem? hy)
              obtain ⟨n, rfl⟩ := Int.eq_ofNat_of_zero_le g0
              have hn : n < cols.length := by omega
              obtain ⟨x, hx⟩ : ∃ x, cols[n]? = some x := ⟨_, List.getElem?_eq_getElem hn⟩
              have hnul : nullAt cols (n : Int) = x.null := by unfold nullAt; simp [hx]
              have k1 := (HBI.out.drew).c HL0r.out
              have k2 := (HBI.out.drew).c HL1r.out
              have k3 := (HBW.out.then_ HBI.out).drew.c (hki j (n : Int) hy)
              have k4 := (HBW.out.then_ HBI.out).drew.c (HCI.out n x hx).2.2.2
              have hjI : (j : Int) < key.length := by omega
              have hnJ : (n : Int) < cols.length := by omega
              have HHIT : Hid (x.null = true → R = false) := fun e => by
                rw [HRN.out, show key.any (nullAt cols) = true from List.any_eq_true.2 ⟨(n : Int), List.mem_of_getElem? hy, by rw [hnul]; exact e⟩]; rfl
              have HJN : Hid (x.null = false → (key.take (j + 1)).any (nullAt cols) = false) := fun e => by
                rw [List.take_add_one, hy, List.any_append, HJ.out]
                simp [hnul, e]
              clear hy hx hnul hki g0 g1
              generalize x.null = nb at *
              cases nb
              · have ht := Lib.hid (HJN.out rfl)
                go_wp2
                refine wp_region_noPanic ?_
                refine wp_region_held_drew (S := (fun V : World => V.cell? ⟨w.heap.size, 0, none⟩ = some (.slice (some ⟨b, off, none⟩) cols.length cc) ∧ V.cell? ⟨w.heap.size, 1, none⟩ = some (.slice (some ⟨bk, ok, none⟩) key.length ck) ∧ V.cell? ⟨bk, ok + j, none⟩ = some (.int .i64 n) ∧ V.cell? ⟨b, off + n * 4 + 3, none⟩ = some (.bool false))) (by kernel_rfl) ?_ (fun hHr3_0 => ?_)
                · (try dsimp only); exact ⟨k1, k2, k3, k4⟩
                refine wpAnyH_take (i := 0) (oi := _) (v := ?vr3_1_0) rfl (by kernel_rfl) (by kernel_rfl) (by kernel_rfl) ?hqr3_1_0 (Or.inl ⟨by kernel_rfl, ?hyr3_1_0⟩) (by assumption) ?restr3_1_0
                case hqr3_1_0 => exact fun _ _ _ h => h
                case hyr3_1_0 => (intro w hSw; (try dsimp only at hSw); go_simp; try with_reducible rfl)
                try simp only [Act.put, List.getElem_toArray, List.getElem_cons_succ, List.getElem_cons_zero, List.setIfInBounds_toArray, List.set_cons_zero, List.set_cons_succ]
                refine wpAnyH_take (i := 1) (oi := _) (v := ?vr3_1_1) rfl (by kernel_rfl) (by kernel_rfl) (by kernel_rfl) ?hqr3_1_1 (Or.inl ⟨by kernel_rfl, ?hyr3_1_1⟩) (by assumption) ?restr3_1_1
                case hqr3_1_1 => exact fun _ _ _ h => h
                case hyr3_1_1 => (intro w hSw; (try dsimp only at hSw); go_simp; try with_reducible rfl)
                try simp only [Act.put, List.getElem_toArray, List.getElem_cons_succ, List.getElem_cons_zero, List.setIfInBounds_toArray, List.set_cons_zero, List.set_cons_succ]
                refine wpAnyH_take (i := 2) (oi := _) (v := ?vr3_1_2) rfl (by kernel_rfl) (by kernel_rfl) (by kernel_rfl) ?hqr3_1_2 (Or.inl ⟨by kernel_rfl, ?hyr3_1_2⟩) (by assumption) ?restr3_1_2
                case hqr3_1_2 => exact fun _ _ _ h => h
                case hyr3_1_2 => (intro w hSw; (try dsimp only at hSw); go_simp; try with_reducible rfl)
                try simp only [Act.put, List.getElem_toArray, List.getElem_cons_succ, List.getElem_cons_zero, List.setIfInBounds_toArray, List.set_cons_zero, List.set_cons_succ]
                refine wpAnyH_take (i := 3) (oi := _) (v := ?vr3_1_3) rfl (by kernel_rfl) (by kernel_rfl) (by kernel_rfl) ?hqr3_1_3 (Or.inl ⟨by kernel_rfl, ?hyr3_1_3⟩) (by assumption) ?restr3_1_3
                case hqr3_1_3 => exact fun _ _ _ h => h
                case hyr3_1_3 => (intro w hSw; (try dsimp only at hSw); go_simp; try with_reducible rfl)
                try simp only [Act.put, List.getElem_toArray, List.getElem_cons_succ, List.getElem_cons_zero, List.setIfInBounds_toArray, List.set_cons_zero, List.set_cons_succ]
                refine wpAnyH_take (i := 4) (oi := _) (v := ?vr3_1_4) rfl (by kernel_rfl) (by kernel_rfl) (by kernel_rfl) ?hqr3_1_4 (Or.inl ⟨by kernel_rfl, ?hyr3_1_4⟩) (by assumption) ?restr3_1_4
                case hqr3_1_4 => exact fun _ _ _ h => h
                case hyr3_1_4 => (intro w hSw; (try dsimp only at hSw); go_simp; try with_reducible rfl)
                try simp only [Act.put, List.getElem_toArray, List.getElem_cons_succ, List.getElem_cons_zero, List.setIfInBounds_toArray, List.set_cons_zero, List.set_cons_succ]
                refine wpAnyH_take (i := 5) (oi := _) (v := ?vr3_1_5) rfl (by kernel_rfl) (by kernel_rfl) (by kernel_rfl) ?hqr3_1_5 (Or.inl ⟨by kernel_rfl, ?hyr3_1_5⟩) (by assumption) ?restr3_1_5
                case hqr3_1_5 => exact fun _ _ _ h => h
                case hyr3_1_5 => (intro w hSw; (try dsimp only at hSw); go_simp; try with_reducible rfl)
                try simp only [Act.put, List.getElem_toArray, List.getElem_cons_succ, List.getElem_cons_zero, List.setIfInBounds_toArray, List.set_cons_zero, List.set_cons_succ]
                refine wpAnyH_take (i := 6) (oi := _) (v := ?vr3_1_6) rfl (by kernel_rfl) (by kernel_rfl) (by kernel_rfl) ?hqr3_1_6 (Or.inl ⟨by kernel_rfl, ?hyr3_1_6⟩) (by assumption) ?restr3_1_6
                case hqr3_1_6 => exact fun _ _ _ h => h
                case hyr3_1_6 => (intro w hSw; (try dsimp only at hSw); go_simp; try with_reducible rfl)
                try simp only [Act.put, List.getElem_toArray, List.getElem_cons_succ, List.getElem_cons_zero, List.setIfInBounds_toArray, List.set_cons_zero, List.set_cons_succ]
                refine wpAnyH_take (i := 7) (oi := _) (v := ?vr3_1_7) rfl (by kernel_rfl) (by kernel_rfl) (by kernel_rfl) ?hqr3_1_7 (Or.inl ⟨by kernel_rfl, ?hyr3_1_7⟩) (by assumption) ?restr3_1_7
                case hqr3_1_7 => exact fun _ _ _ h => h
                case hyr3_1_7 => (intro w hSw; (try dsimp only at hSw); go_simp; try with_reducible rfl)
                try simp only [Act.put, List.getElem_toArray, List.getElem_cons_succ, List.getElem_cons_zero, List.setIfInBounds_toArray, List.set_cons_zero, List.set_cons_succ]
                refine wpAnyH_take (i := 8) (oi := _) (v := ?vr3_1_8) rfl (by kernel_rfl) (by kernel_rfl) (by kernel_rfl) ?hqr3_1_8 (Or.inl ⟨by kernel_rfl, ?hyr3_1_8⟩) (by assumption) ?restr3_1_8
                case hqr3_1_8 => exact fun _ _ _ h => h
                case hyr3_1_8 => (intro w hSw; (try dsimp only at hSw); go_simp; try with_reducible rfl)
                try simp only [Act.put, List.getElem_toArray, List.getElem_cons_succ, List.getElem_cons_zero, List.setIfInBounds_toArray, List.set_cons_zero, List.set_cons_succ]
                refine wpAnyH_take (i := 9) (oi := _) (v := ?vr3_1_9) rfl (by kernel_rfl) (by kernel_rfl) (by kernel_rfl) ?hqr3_1_9 (Or.inl ⟨by kernel_rfl, ?hyr3_1_9⟩) (by assumption) ?restr3_1_9
                case hqr3_1_9 => exact fun _ _ _ h => h
                case hyr3_1_9 => (intro w hSw; (try dsimp only at hSw); go_simp; try with_reducible rfl)
                try simp only [Act.put, List.getElem_toArray, List.getElem_cons_succ, List.getElem_cons_zero, List.setIfInBounds_toArray, List.set_cons_zero, List.set_cons_succ]
                refine wpAnyH_done (by kernel_rfl) ?_ _
                refine NoPanic.normal ?_
                go_wp2
                go_roundw
                case rel => exact ⟨j + 1, by omega, by go_num, ht.out, HBI.out.drew⟩
                case measure => simp [intOf]; omega
              · have hf : R = false := HHIT.out rfl
                go_wp2
                refine wp_region_noPanic ?_
                refine wp_region_held_drew (S := (fun V : World => V.cell? ⟨w.heap.size, 0, none⟩ = some (.slice (some ⟨b, off, none⟩) cols.length cc) ∧ V.cell? ⟨w.heap.size, 1, none⟩ = some (.slice (some ⟨bk, ok, none⟩) key.length ck) ∧ V.cell? ⟨bk, ok + j, none⟩ = some (.int .i64 n) ∧ V.cell? ⟨b, off + n * 4 + 3, none⟩ = some (.bool true))) (by kernel_rfl) ?_ (fun hHr4_0 => ?_)
                · (try dsimp only); exact ⟨k1, k2, k3, k4⟩
                refine wpAnyH_take (i := 0) (oi := _) (v := ?vr4_1_0) rfl (by kernel_rfl) (by kernel_rfl) (by kernel_rfl) ?hqr4_1_0 (Or.inl ⟨by kernel_rfl, ?hyr4_1_0⟩) (by assumption) ?restr4_1_0
                case hqr4_1_0 => exact fun _ _ _ h => h
                case hyr4_1_0 => (intro w hSw; (try dsimp only at hSw); go_simp; try with_reducible rfl)
                try simp only [Act.put, List.getElem_toArray, List.getElem_cons_succ, List.getElem_cons_zero, List.setIfInBounds_toArray, List.set_cons_zero, List.set_cons_succ]
                refine wpAnyH_take (i := 1) (oi := _) (v := ?vr4_1_1) rfl (by kernel_rfl) (by kernel_rfl) (by kernel_rfl) ?hqr4_1_1 (Or.inl ⟨by kernel_rfl, ?hyr4_1_1⟩) (by assumption) ?restr4_1_1
                case hqr4_1_1 => exact fun _ _ _ h => h
                case hyr4_1_1 => (intro w hSw; (try dsimp only at hSw); go_simp; try with_reducible rfl)
                try simp only [Act.put, List.getElem_toArray, List.getElem_cons_succ, List.getElem_cons_zero, List.setIfInBounds_toArray, List.set_cons_zero, List.set_cons_succ]
                refine wpAnyH_take (i := 2) (oi := _) (v := ?vr4_1_2) rfl (by kernel_rfl) (by kernel_rfl) (by kernel_rfl) ?hqr4_1_2 (Or.inl ⟨by kernel_rfl, ?hyr4_1_2⟩) (by assumption) ?restr4_1_2
                case hqr4_1_2 => exact fun _ _ _ h => h
                case hyr4_1_2 => (intro w hSw; (try dsimp only at hSw); go_simp; try with_reducible rfl)
                try simp only [Act.put, List.getElem_toArray, List.getElem_cons_succ, List.getElem_cons_zero, List.setIfInBounds_toArray, List.set_cons_zero, List.set_cons_succ]
                refine wpAnyH_take (i := 3) (oi := _) (v := ?vr4_1_3) rfl (by kernel_rfl) (by kernel_rfl) (by kernel_rfl) ?hqr4_1_3 (Or.inl ⟨by kernel_rfl, ?hyr4_1_3⟩) (by assumption) ?restr4_1_3
                case hqr4_1_3 => exact fun _ _ _ h => h
                case hyr4_1_3 => (intro w hSw; (try dsimp only at hSw); go_simp; try with_reducible rfl)
                try simp only [Act.put, List.getElem_toArray, List.getElem_cons_succ, List.getElem_cons_zero, List.setIfInBounds_toArray, List.set_cons_zero, List.set_cons_succ]
                refine wpAnyH_take (i := 4) (oi := _) (v := ?vr4_1_4) rfl (by kernel_rfl) (by kernel_rfl) (by kernel_rfl) ?hqr4_1_4 (Or.inl ⟨by kernel_rfl, ?hyr4_1_4⟩) (by assumption) ?restr4_1_4
                case hqr4_1_4 => exact fun _ _ _ h => h
                case hyr4_1_4 => (intro w hSw; (try dsimp only at hSw); go_simp; try with_reducible rfl)
                try simp only [Act.put, List.getElem_toArray, List.getElem_cons_succ, List.getElem_cons_zero, List.setIfInBounds_toArray, List.set_cons_zero, List.set_cons_succ]
                refine wpAnyH_take (i := 5) (oi := _) (v := ?vr4_1_5) rfl (by kernel_rfl) (by kernel_rfl) (by kernel_rfl) ?hqr4_1_5 (Or.inl ⟨by kernel_rfl, ?hyr4_1_5⟩) (by assumption) ?restr4_1_5
                case hqr4_1_5 => exact fun _ _ _ h => h
                case hyr4_1_5 => (intro w hSw; (try dsimp only at hSw); go_simp; try with_reducible rfl)
                try simp only [Act.put, List.getElem_toArray, List.getElem_cons_succ, List.getElem_cons_zero, List.setIfInBounds_toArray, List.set_cons_zero, List.set_cons_succ]
                refine wpAnyH_take (i := 6) (oi := _) (v := ?vr4_1_6) rfl (by kernel_rfl) (by kernel_rfl) (by kernel_rfl) ?hqr4_1_6 (Or.inl ⟨by kernel_rfl, ?hyr4_1_6⟩) (by assumption) ?restr4_1_6
                case hqr4_1_6 => exact fun _ _ _ h => h
                case hyr4_1_6 => (intro w hSw; (try dsimp only at hSw); go_simp; try with_reducible rfl)
                try simp only [Act.put, List.getElem_toArray, List.getElem_cons_succ, List.getElem_cons_zero, List.setIfInBounds_toArray, List.set_cons_zero, List.set_cons_succ]
                refine wpAnyH_take (i := 7) (oi := _) (v := ?vr4_1_7) rfl (by kernel_rfl) (by kernel_rfl) (by kernel_rfl) ?hqr4_1_7 (Or.inl ⟨by kernel_rfl, ?hyr4_1_7⟩) (by assumption) ?restr4_1_7
                case hqr4_1_7 => exact fun _ _ _ h => h
                case hyr4_1_7 => (intro w hSw; (try dsimp only at hSw); go_simp; try with_reducible rfl)
                try simp only [Act.put, List.getElem_toArray, List.getElem_cons_succ, List.getElem_cons_zero, List.setIfInBounds_toArray, List.set_cons_zero, List.set_cons_succ]
                refine wpAnyH_take (i := 8) (oi := _) (v := ?vr4_1_8) rfl (by kernel_rfl) (by kernel_rfl) (by kernel_rfl) ?hqr4_1_8 (Or.inl ⟨by kernel_rfl, ?hyr4_1_8⟩) (by assumption) ?restr4_1_8
                case hqr4_1_8 => exact fun _ _ _ h => h
                case hyr4_1_8 => (intro w hSw; (try dsimp only at hSw); go_simp; try with_reducible rfl)
                try simp only [Act.put, List.getElem_toArray, List.getElem_cons_succ, List.getElem_cons_zero, List.setIfInBounds_toArray, List.set_cons_zero, List.set_cons_succ]
                refine wpAnyH_take (i := 9) (oi := _) (v := ?vr4_1_9) rfl (by kernel_rfl) (by kernel_rfl) (by kernel_rfl) ?hqr4_1_9 (Or.inl ⟨by kernel_rfl, ?hyr4_1_9⟩) (by assumption) ?restr4_1_9
                case hqr4_1_9 => exact fun _ _ _ h => h
                case hyr4_1_9 => (intro w hSw; (try dsimp only at hSw); go_simp; try with_reducible rfl)
                try simp only [Act.put, List.getElem_toArray, List.getElem_cons_succ, List.getElem_cons_zero, List.setIfInBounds_toArray, List.set_cons_zero, List.set_cons_succ]
                refine wpAnyH_done (by kernel_rfl) ?_ _
                refine NoPanic.normal ?_
                go_wp2
                go_ret
                exact ⟨by first | rfl | (rw [hf]; rfl), (HBW.out.then_ HBI.out).drew⟩
            · obtain rfl : j = key.length := by omega
              have HRM : Hid (R = !uq.any (fun l => !setB l cols.length)) := by
                show _ = _
                have := HJ.out
                rw [List.take_length] at this
                rw [HRN.out, this]; rfl
              clear HJ hjk hj HRN
              go_wp2
              have HBX := Lib.hid (HBW.out.then_ HBI.out)
              have HL2s := Lib.hid (HBI.out.c HL2r.out)
              clear hl1
              go_loopw [7] (fun i wu => ∃ j : Nat, j ≤ uq.length ∧ i = .int .i64 j ∧ Hid ((uq.take j).any (fun l => !setB l cols.length) = false) ∧ Hid (Bel wr wu)) (fun i _ => uq.length - (intOf i).toNat)
              case atStart => exact ⟨0, Nat.zero_le _, rfl, (by show _ = _; simp), Bel.refl wr⟩
              case round =>
                obtain ⟨j, hj, rfl, HJ, HBU⟩ := hrel
                have hl2 := HBU.out.c HL2s.out
                by_cases hjk : j < uq.length
                · obtain ⟨y, hy⟩ : ∃ y, uq[j]? = some y := ⟨_, List.getElem?_eq_getElem hjk⟩
                  obtain ⟨bu, ou, rfl, hui⟩ := HRU.out (by omega)
                  obtain ⟨u, hu0, hu1⟩ := hui j y hy
                  have hcu0 := (HBX.out.then_ HBU.out).c hu0
                  have HSE := Lib.hid (HLS.out wr u y (hu1.bel (HBX.out.then_ HBU.out)))
                  have hjI : (j : Int) < uq.length := by omega
                  have HHIT : Hid (setB y cols.length = false → R = false) := fun e => by
                    rw [HRM.out, show uq.any (fun l => !setB l cols.length) = true from List.any_eq_true.2 ⟨y, List.mem_of_getElem? hy, by rw [e]; rfl⟩]; rfl
                  have HJN : Hid (setB y cols.length = true → (uq.take (j + 1)).any (fun l => !setB l cols.length) = false) := fun e => by
                    rw [List.take_add_one, hy, List.any_append, HJ.out]
                    simp [e]
                  clear hy hui hu0 hu1
                  generalize setB y cols.length = sb at *
                  cases sb
                  · have hf : R = false := HHIT.out rfl
                    go_wp2_with (go_at_call 69; refine HSE.out.mono ?_; rintro e w8 ⟨rfl, hb8⟩)
                    go_ret
                    exact ⟨by first | rfl | (rw [hf]; rfl), (HBX.out.then_ HBU.out).then_ hb8⟩
                  · have ht := Lib.hid (HJN.out rfl)
                    go_wp2_with (go_at_call 69; refine HSE.out.mono ?_; rintro e w8 ⟨rfl, hb8⟩)
                    go_roundw
                    case rel => exact ⟨j + 1, by omega, by go_num, ht.out, HBU.out.then_ hb8⟩
                    case measure => simp [intOf]; omega
                · obtain rfl : j = uq.length := by omega
                  have ht : R = true := by
                    have := HJ.out
                    rw [List.take_length] at this
                    rw [HRM.out, this]; rfl
                  clear HJ hjk hj
                  go_wp2
                  go_ret
                  exact ⟨by first | rfl | (rw [ht]; rfl), HBX.out.then_ HBU.out⟩
  · have hf : R = false := by rw [HR.out]; unfold rightS; rw [decide_eq_false h1]; rfl
    subst hf
    by_cases n1 : (cols.length : Int) < 1
    · have b4 : decide ((1 : Int) ≤ cols.length) = false := by simp; omega
      go_enter Tryz.func31, Tryz.ntmps31
      go_wp2_with fail
      all_goals
        go_ret
        exact ⟨rfl, by (repeat (first | exact Below.refl _ _ | assumption | exact Bel.refl _ | refine Bel.alloc ?_ _ | refine Bel.drew ?_ | refine Bel.drewN ?_ _ | refine Bel.then_ ?_ (by assumption) | refine Bel.setCell ?_ (by first | (simp; done) | (simp; omega)) _))⟩
    · have n1b : decide ((cols.length : Int) < 1) = false := by simp; omega
      by_cases n2 : (8 : Int) < cols.length
      · go_enter Tryz.func31, Tryz.ntmps31
        go_wp2_with fail
        all_goals
          go_ret
          exact ⟨rfl, by (repeat (first | exact Below.refl _ _ | assumption | exact Bel.refl _ | refine Bel.alloc ?_ _ | refine Bel.drew ?_ | refine Bel.drewN ?_ _ | refine Bel.then_ ?_ (by assumption) | refine Bel.setCell ?_ (by first | (simp; done) | (simp; omega)) _))⟩
      · have n2b : decide ((8 : Int) < cols.length) = false := by simp; omega
        have n3 : (3 : Int) < uq.length := by omega
        go_enter Tryz.func31, Tryz.ntmps31
        go_wp2_with fail
        all_goals
          go_ret
          exact ⟨rfl, by (repeat (first | exact Below.refl _ _ | assumption | exact Bel.refl _ | refine Bel.alloc ?_ _ | refine Bel.drew ?_ | refine Bel.drewN ?_ _ | refine Bel.then_ ?_ (by assumption) | refine Bel.setCell ?_ (by first | (simp; done) | (simp; omega)) _))⟩
end Go.Proofs.YtkklmflclmgjeaaGreatDoor
