/-
  The texts of the schema and of the codec, one behind the other: part 3.
-/
import Derived.Test.YtkklmflclmgjeaaGreatDoorP2
import Derived.Deep.OwnRows
import Derived.Lib.ConvBytes
import Derived.Lib.AppendStr
import Derived.BigQuiet
import Derived.Laws.BytesArg
/-
  The document: which schemas may be.
-/
set_option linter.unusedVariables false
set_option linter.unusedSimpArgs false
set_option linter.unusedVariables false
set_option linter.unusedSimpArgs false
namespace Go.Proofs.YtkklmflclmgjeaaGreatDoor
open Go.RowKit Go.Shelf Go.Lib
attribute [local go_sem] Oper.semAt_some

set_option maxRecDepth 100000 in
set_option maxHeartbeats 4000000 in
theorem tRight_any (vc vk vu : Value) (cols : List Col) (key : List Int) (uq : List (List Int)) (w : World) (hc : ColsAt w vc cols) (hk : IntsAt w vk key) (hu : ListsAt w vu uq) (hnm : ∀ c ∈ cols, c.name.size ≤ 9223372036854775807) :
    Calls Tryz.prog 31 #[.agg #[vc, vk, vu]] w fun e w' => e = .returned (.bool (rightS cols key uq)) ∧ Bel w w' := by
  obtain ⟨R, hR⟩ : ∃ R, R = rightS cols key uq := ⟨_, rfl⟩
  rw [← hR]
  have HR := Lib.hid hR
  clear hR
  have HC := Lib.hid hc
  have HK := Lib.hid hk
  have HU := Lib.hid hu
  have HNM := Lib.hid hnm
  obtain ⟨Ac, cc, rfl, hcc, hmc, hrc⟩ := hc
  obtain ⟨Ak, ck, rfl, hck, hmk, hrk⟩ := hk
  obtain ⟨Au, cu, rfl, hcu, hmu, hru⟩ := hu
  have HRC := Lib.hid hrc
  have HRK := Lib.hid hrk
  have HRU := Lib.hid hru
  have hnI : (cols.length : Int) ≤ 9223372036854775807 := by unfold maxLen at hmc; omega
  have huI : (uq.length : Int) ≤ 9223372036854775807 := by unfold maxLen at hmu; omega
  have hkI : (key.length : Int) ≤ 9223372036854775807 := by unfold maxLen at hmk; omega
  clear hrc hru hrk hmu hmc hmk hnm
  have HLS := Lib.hid (fun V v l (h : IntsAt V v l) => tset_any v l cols.length V h)
  by_cases h1 : 1 ≤ cols.length ∧ cols.length ≤ 8 ∧ uq.length ≤ 3
  · have b1 : decide ((cols.length : Int) < 1) = false := by simp; omega
    have b2 : decide ((8 : Int) < cols.length) = false := by simp; omega
    have b3 : decide ((3 : Int) < uq.length) = false := by simp; omega
    have HLS2 := Lib.hid (fun V (hb : Bel w V) => HLS.out V _ _ (HK.out.bel hb))
    cases hsb : setB key cols.length with
    | false =>
      have hf : R = false := by rw [HR.out]; unfold rightS; rw [hsb]; simp
      rw [hsb] at HLS2
      subst hf
      go_enter Tryz.func31, Tryz.ntmps31
      go_wp2_with (go_at_call 69; refine (HLS2.out _ ((Bel.refl w).alloc _)).mono ?_; rintro e w4 ⟨rfl, hb4⟩)
      go_ret
      exact ⟨rfl, ((Bel.refl w).alloc _).then_ hb4⟩
    | true =>
      rw [hsb] at HLS2
      have HSB := Lib.hid hsb
      clear hsb
      go_enter Tryz.func31, Tryz.ntmps31
      go_wp2_with (go_at_call 69; refine (HLS2.out _ ((Bel.refl w).alloc _)).mono ?_; rintro e w4 ⟨rfl, hb4⟩; have hl0 : w4.cell? ⟨w.heap.size, 0, none⟩ = some (.slice Ac cols.length cc) := hb4.c (by go_simp); have hl1 : w4.cell? ⟨w.heap.size, 1, none⟩ = some (.slice Ak key.length ck) := hb4.c (by go_simp); have hl2 : w4.cell? ⟨w.heap.size, 2, none⟩ = some (.slice Au uq.length cu) := hb4.c (by go_simp); have hw4 : Bel w w4 := ((Bel.refl w).alloc _).then_ hb4)
      obtain ⟨b, off, hA, hci⟩ := HRC.out (by omega)
      subst hA
      have HCI := Lib.hid hci
      have HW4 := Lib.hid hw4
      have HL0 := Lib.hid hl0
      have HL1 := Lib.hid hl1
      have HL2 := Lib.hid hl2
      clear hci hb4 hw4 hl0 hl1 hl2 HLS2
      go_loopw [4] (fun i wr => ∃ k : Nat, k ≤ cols.length ∧ i = .int .i64 k ∧ Hid (Bel w4 wr) ∧ Hid (∀ j, j < k → colB cols j = true)) (fun i _ => cols.length - (intOf i).toNat)
      case atStart => exact ⟨0, Nat.zero_le _, rfl, Bel.refl w4, fun j hj => by omega⟩
      case round =>
        obtain ⟨k, hk, rfl, HB, HT⟩ := hrel
        have hl0 := HB.out.c HL0.out
        by_cases hlt : k < cols.length
        · obtain ⟨x, hx⟩ : ∃ x, cols[k]? = some x := ⟨_, List.getElem?_eq_getElem hlt⟩
          obtain ⟨q0, q1, q2, q3⟩ := HCI.out k x hx
          have hbw : Bel w wr := HW4.out.then_ HB.out
          have p0 := hbw.c q0
          have p1 := hbw.c q1
          have p2 := hbw.c q2
          have p3 := hbw.c q3
          have hkI : (k : Int) < cols.length := by omega
          have HCB : Hid (colB cols k = (rightB x && !(cols.take k).any (fun o => decide (o.name = x.name)))) := by show _ = _; unfold colB; rw [hx]
          have HNX : Hid (colB cols k = true → ∀ j, j < k + 1 → colB cols j = true) := fun e j hj => by
            by_cases ej : j = k
            · subst ej; exact e
            · exact HT.out j (by omega)
          have HNO : Hid (colB cols k = false → R = false) := fun e => by
            rw [HR.out]; unfold rightS
            have : (List.range cols.length).all (colB cols) = false := by rw [List.all_eq_false]; exact ⟨k, List.mem_range.2 hlt, by simp [e]⟩
            rw [this]; simp
          have HRI := Lib.hid (tcolumn_any x (HNM.out x (List.mem_of_getElem? hx)) wr)
          have HBW := Lib.hid hbw
          clear hx q1 q2 q3 hbw
          unfold Col.v at HRI
          cases hrb : rightB x with
          | false =>
            have hf : R = false := HNO.out (by rw [HCB.out, hrb]; rfl)
            rw [hrb] at HRI
            clear hrb
            go_wp2_with (go_at_call 56; refine HRI.out.mono ?_; rintro e w5 ⟨rfl, hb5⟩)
            go_ret
            exact ⟨by first | rfl | (rw [hf]; rfl), HBW.out.then_ hb5⟩
          | true =>
            rw [hrb] at HRI HCB
            clear hrb
            go_wp2_with (go_at_call 56; refine HRI.out.mono ?_; rintro e w5 ⟨rfl, hb5⟩)
            have HB5 := Lib.hid (HBW.out.then_ hb5)
            have HB45 := Lib.hid (HB.out.then_ hb5)
            clear hb5 p0 p1 p2 p3 hl0
            go_loopw [5] (fun i wi => ∃ j : Nat, j ≤ k ∧ i = .int .i64 j ∧ Hid ((cols.take j).any (fun o => decide (o.name = x.name)) = false) ∧ Hid (Bel w5 wi)) (fun i _ => k - (intOf i).toNat)
            case atStart => exact ⟨0, Nat.zero_le _, rfl, (by show _ = _; simp), Bel.refl w5⟩
            case round =>
              rename_i wi
              obtain ⟨j, hj, rfl, HJ, HBI⟩ := hrel
              by_cases hjk : j < k
              · obtain ⟨y, hy⟩ : ∃ y, cols[j]? = some y := ⟨_, List.getElem?_eq_getElem (by omega)⟩
                have hl0 := (HB45.out.then_ HBI.out).drew.c HL0.out
                have hn1 := (HB5.out.then_ HBI.out).drew.c (HCI.out j y hy).1
                have hn2 := (HB5.out.then_ HBI.out).drew.c q0
                have hjI : (j : Int) < k := by omega
                have hjl : (j : Int) < cols.length := by omega
                have HHIT : Hid (y.name = x.name → (cols.take k).any (fun o => decide (o.name = x.name)) = true) := fun e => List.any_eq_true.2 ⟨y, List.mem_of_getElem? (i := j) (by rw [List.getElem?_take, if_pos hjk]; exact hy), decide_eq_true e⟩
                have HJN : Hid (¬ y.name = x.name → (cols.take (j + 1)).any (fun o => decide (o.name = x.name)) = false) := fun e => by
                  rw [List.take_add_one, hy, List.any_append, HJ.out]
                  simp [e]
                have hse := str_beq y.name x.name
                clear hy
                by_cases hxy : y.name = x.name
                · have hf : R = false := HNO.out (by rw [HCB.out, HHIT.out hxy]; rfl)
                  rw [decide_eq_true hxy] at hse
                  go_wp2
                  refine wp_region_noPanic ?_
                  refine wp_region_held_drew (S := (fun V : World => V.cell? ⟨w.heap.size, 0, none⟩ = some (.slice (some ⟨b, off, none⟩) cols.length cc) ∧ V.cell? ⟨b, off + j * 4, none⟩ = some (.string y.name) ∧ V.cell? ⟨b, off + k * 4, none⟩ = some (.string x.name))) (by kernel_rfl) ?_ (fun hHr1_0 => ?_)
                  · (try dsimp only); exact ⟨hl0, hn1, hn2⟩
                  refine wpAnyH_take (i := 0) (oi := _) (v := ?vr1_1_0) rfl (by kernel_rfl) (by kernel_rfl) (by kernel_rfl) ?hqr1_1_0 (Or.inl ⟨by kernel_rfl, ?hyr1_1_0⟩) (by assumption) ?restr1_1_0
                  case hqr1_1_0 => exact fun _ _ _ h => h
                  case hyr1_1_0 => (intro w hSw; (try dsimp only at hSw); go_simp; try with_reducible rfl)
                  try simp only [Act.put, List.getElem_toArray, List.getElem_cons_succ, List.getElem_cons_zero, List.setIfInBounds_toArray, List.set_cons_zero, List.set_cons_succ]
                  refine wpAnyH_take (i := 1) (oi := _) (v := ?vr1_1_1) rfl (by kernel_rfl) (by kernel_rfl) (by kernel_rfl) ?hqr1_1_1 (Or.inl ⟨by kernel_rfl, ?hyr1_1_1⟩) (by assumption) ?restr1_1_1
                  case hqr1_1_1 => exact fun _ _ _ h => h
                  case hyr1_1_1 => (intro w hSw; (try dsimp only at hSw); go_simp; try with_reducible rfl)
                  try simp only [Act.put, List.getElem_toArray, List.getElem_cons_succ, List.getElem_cons_zero, List.setIfInBounds_toArray, List.set_cons_zero, List.set_cons_succ]
                  refine wpAnyH_take (i := 2) (oi := _) (v := ?vr1_1_2) rfl (by kernel_rfl) (by kernel_rfl) (by kernel_rfl) ?hqr1_1_2 (Or.inl ⟨by kernel_rfl, ?hyr1_1_2⟩) (by assumption) ?restr1_1_2
                  case hqr1_1_2 => exact fun _ _ _ h => h
                  case hyr1_1_2 => (intro w hSw; (try dsimp only at hSw); go_simp; try with_reducible rfl)
                  try simp only [Act.put, List.getElem_toArray, List.getElem_cons_succ, List.getElem_cons_zero, List.setIfInBounds_toArray, List.set_cons_zero, List.set_cons_succ]
                  refine wpAnyH_take (i := 3) (oi := _) (v := ?vr1_1_3) rfl (by kernel_rfl) (by kernel_rfl) (by kernel_rfl) ?hqr1_1_3 (Or.inl ⟨by kernel_rfl, ?hyr1_1_3⟩) (by assumption) ?restr1_1_3
                  case hqr1_1_3 => exact fun _ _ _ h => h
                  case hyr1_1_3 => (intro w hSw; (try dsimp only at hSw); go_simp; try with_reducible rfl)
                  try simp only [Act.put, List.getElem_toArray, List.getElem_cons_succ, List.getElem_cons_zero, List.setIfInBounds_toArray, List.set_cons_zero, List.set_cons_succ]
                  refine wpAnyH_take (i := 4) (oi := _) (v := ?vr1_1_4) rfl (by kernel_rfl) (by kernel_rfl) (by kernel_rfl) ?hqr1_1_4 (Or.inl ⟨by kernel_rfl, ?hyr1_1_4⟩) (by assumption) ?restr1_1_4
                  case hqr1_1_4 => exact fun _ _ _ h => h
                  case hyr1_1_4 => (intro w hSw; (try dsimp only at hSw); go_simp; try with_reducible rfl)
                  try simp only [Act.put, List.getElem_toArray, List.getElem_cons_succ, List.getElem_cons_zero, List.setIfInBounds_toArray, List.set_cons_zero, List.set_cons_succ]
                  refine wpAnyH_take (i := 5) (oi := _) (v := ?vr1_1_5) rfl (by kernel_rfl) (by kernel_rfl) (by kernel_rfl) ?hqr1_1_5 (Or.inl ⟨by kernel_rfl, ?hyr1_1_5⟩) (by assumption) ?restr1_1_5
                  case hqr1_1_5 => exact fun _ _ _ h => h
                  case hyr1_1_5 => (intro w hSw; (try dsimp only at hSw); go_simp; try with_reducible rfl)
                  try simp only [Act.put, List.getElem_toArray, List.getElem_cons_succ, List.getElem_cons_zero, List.setIfInBounds_toArray, List.set_cons_zero, List.set_cons_succ]
                  refine wpAnyH_take (i := 6) (oi := _) (v := ?vr1_1_6) rfl (by kernel_rfl) (by kernel_rfl) (by kernel_rfl) ?hqr1_1_6 (Or.inl ⟨by kernel_rfl, ?hyr1_1_6⟩) (by assumption) ?restr1_1_6
                  case hqr1_1_6 => exact fun _ _ _ h => h
                  case hyr1_1_6 => (intro w hSw; (try dsimp only at hSw); go_simp; try with_reducible rfl)
                  try simp only [Act.put, List.getElem_toArray, List.getElem_cons_succ, List.getElem_cons_zero, List.setIfInBounds_toArray, List.set_cons_zero, List.set_cons_succ]
                  refine wpAnyH_take (i := 7) (oi := _) (v := ?vr1_1_7) rfl (by kernel_rfl) (by kernel_rfl) (by kernel_rfl) ?hqr1_1_7 (Or.inl ⟨by kernel_rfl, ?hyr1_1_7⟩) (by assumption) ?restr1_1_7
                  case hqr1_1_7 => exact fun _ _ _ h => h
                  case hyr1_1_7 => (intro w hSw; (try dsimp only at hSw); go_simp; try with_reducible rfl)
                  try simp only [Act.put, List.getElem_toArray, List.getElem_cons_succ, List.getElem_cons_zero, List.setIfInBounds_toArray, List.set_cons_zero, List.set_cons_succ]
                  refine wpAnyH_take (i := 8) (oi := _) (v := ?vr1_1_8) rfl (by kernel_rfl) (by kernel_rfl) (by kernel_rfl) ?hqr1_1_8 (Or.inl ⟨by kernel_rfl, ?hyr1_1_8⟩) (by assumption) ?restr1_1_8
                  case hqr1_1_8 => exact fun _ _ _ h => h
                  case hyr1_1_8 => (intro w hSw; (try dsimp only at hSw); go_simp; try with_reducible rfl)
                  try simp only [Act.put, List.getElem_toArray, List.getElem_cons_succ, List.getElem_cons_zero, List.setIfInBounds_toArray, List.set_cons_zero, List.set_cons_succ]
                  refine wpAnyH_take (i := 9) (oi := _) (v := ?vr1_1_9) rfl (by kernel_rfl) (by kernel_rfl) (by kernel_rfl) ?hqr1_1_9 (Or.inl ⟨by kernel_rfl, ?hyr1_1_9⟩) (by assumption) ?restr1_1_9
                  case hqr1_1_9 => exact fun _ _ _ h => h
                  case hyr1_1_9 => (intro w hSw; (try dsimp only at hSw); go_simp; try with_reducible rfl)
                  try simp only [Act.put, List.getElem_toArray, List.getElem_cons_succ, List.getElem_cons_zero, List.setIfInBounds_toArray, List.set_cons_zero, List.set_cons_succ]
                  refine wpAnyH_take (i := 10) (oi := _) (v := ?vr1_1_10) rfl (by kernel_rfl) (by kernel_rfl) (by kernel_rfl) ?hqr1_1_10 (Or.inl ⟨by kernel_rfl, ?hyr1_1_10⟩) (by assumption) ?restr1_1_10
                  case hqr1_1_10 => exact fun _ _ _ h => h
                  case hyr1_1_10 => (intro w hSw; (try dsimp only at hSw); go_simp; try with_reducible rfl)
                  try simp only [Act.put, List.getElem_toArray, List.getElem_cons_succ, List.getElem_cons_zero, List.setIfInBounds_toArray, List.set_cons_zero, List.set_cons_succ]
                  refine wpAnyH_take (i := 11) (oi := _) (v := ?vr1_1_11) rfl (by kernel_rfl) (by kernel_rfl) (by kernel_rfl) ?hqr1_1_11 (Or.inl ⟨by kernel_rfl, ?hyr1_1_11⟩) (by assumption) ?restr1_1_11
                  case hqr1_1_11 => exact fun _ _ _ h => h
                  case hyr1_1_11 => (intro w hSw; (try dsimp only at hSw); go_simp; try with_reducible rfl)
                  try simp only [Act.put, List.getElem_toArray, List.getElem_cons_succ, List.getElem_cons_zero, List.setIfInBounds_toArray, List.set_cons_zero, List.set_cons_succ]
                  refine wpAnyH_take (i := 12) (oi := _) (v := ?vr1_1_12) rfl (by kernel_rfl) (by kernel_rfl) (by kernel_rfl) ?hqr1_1_12 (Or.inl ⟨by kernel_rfl, ?hyr1_1_12⟩) (by assumption) ?restr1_1_12
                  case hqr1_1_12 => exact fun _ _ _ h => h
                  case hyr1_1_12 => (intro w hSw; (try dsimp only at hSw); go_simp; try with_reducible rfl)
                  try simp only [Act.put, List.getElem_toArray, List.getElem_cons_succ, List.getElem_cons_zero, List.setIfInBounds_toArray, List.set_cons_zero, List.set_cons_succ]
                  refine wpAnyH_done (by kernel_rfl) ?_ _
                  refine NoPanic.normal ?_
                  go_wp2
                  go_ret
                  exact ⟨by first | rfl | (rw [hf]; rfl), (HB5.out.then_ HBI.out).drew⟩
                · rw [decide_eq_false hxy] at hse
                  go_wp2
                  refine wp_region_noPanic ?_
                  refine wp_region_held_drew (S := (fun V : World => V.cell? ⟨w.heap.size, 0, none⟩ = some (.slice (some ⟨b, off, none⟩) cols.length cc) ∧ V.cell? ⟨b, off + j * 4, none⟩ = some (.string y.name) ∧ V.cell? ⟨b, off + k * 4, none⟩ = some (.string x.name))) (by kernel_rfl) ?_ (fun hHr2_0 => ?_)
                  · (try dsimp only); exact ⟨hl0, hn1, hn2⟩
                  refine wpAnyH_take (i := 0) (oi := _) (v := ?vr2_1_0) rfl (by kernel_rfl) (by kernel_rfl) (by kernel_rfl) ?hqr2_1_0 (Or.inl ⟨by kernel_rfl, ?hyr2_1_0⟩) (by assumption) ?restr2_1_0
                  case hqr2_1_0 => exact fun _ _ _ h => h
                  case hyr2_1_0 => (intro w hSw; (try dsimp only at hSw); go_simp; try with_reducible rfl)
                  try simp only [Act.put, List.getElem_toArray, List.getElem_cons_succ, List.getElem_cons_zero, List.setIfInBounds_toArray, List.set_cons_zero, List.set_cons_succ]
                  refine wpAnyH_take (i := 1) (oi := _) (v := ?vr2_1_1) rfl (by kernel_rfl) (by kernel_rfl) (by kernel_rfl) ?hqr2_1_1 (Or.inl ⟨by kernel_rfl, ?hyr2_1_1⟩) (by assumption) ?restr2_1_1
                  case hqr2_1_1 => exact fun _ _ _ h => h
                  case hyr2_1_1 => (intro w hSw; (try dsimp only at hSw); go_simp; try with_reducible rfl)
                  try simp only [Act.put, List.getElem_toArray, List.getElem_cons_succ, List.getElem_cons_zero, List.setIfInBounds_toArray, List.set_cons_zero, List.set_cons_succ]
                  refine wpAnyH_take (i := 2) (oi := _) (v := ?vr2_1_2) rfl (by kernel_rfl) (by kernel_rfl) (by kernel_rfl) ?hqr2_1_2 (Or.inl ⟨by kernel_rfl, ?hyr2_1_2⟩) (by assumption) ?restr2_1_2
                  case hqr2_1_2 => exact fun _ _ _ h => h
                  case hyr2_1_2 => (intro w hSw; (try dsimp only at hSw); go_simp; try with_reducible rfl)
                  try simp only [Act.put, List.getElem_toArray, List.getElem_cons_succ, List.getElem_cons_zero, List.setIfInBounds_toArray, List.set_cons_zero, List.set_cons_succ]
                  refine wpAnyH_take (i := 3) (oi := _) (v := ?vr2_1_3) rfl (by kernel_rfl) (by kernel_rfl) (by kernel_rfl) ?hqr2_1_3 (Or.inl ⟨by kernel_rfl, ?hyr2_1_3⟩) (by assumption) ?restr2_1_3
                  case hqr2_1_3 => exact fun _ _ _ h => h
                  case hyr2_1_3 => (intro w hSw; (try dsimp only at hSw); go_simp; try with_reducible rfl)
                  try simp only [Act.put, List.getElem_toArray, List.getElem_cons_succ, List.getElem_cons_zero, List.setIfInBounds_toArray, List.set_cons_zero, List.set_cons_succ]
                  refine wpAnyH_take (i := 4) (oi := _) (v := ?vr2_1_4) rfl (by kernel_rfl) (by kernel_rfl) (by kernel_rfl) ?hqr2_1_4 (Or.inl ⟨by kernel_rfl, ?hyr2_1_4⟩) (by assumption) ?restr2_1_4
                  case hqr2_1_4 => exact fun _ _ _ h => h
                  case hyr2_1_4 => (intro w hSw; (try dsimp only at hSw); go_simp; try with_reducible rfl)
                  try simp only [Act.put, List.getElem_toArray, List.getElem_cons_succ, List.getElem_cons_zero, List.setIfInBounds_toArray, List.set_cons_zero, List.set_cons_succ]
                  refine wpAnyH_take (i := 5) (oi := _) (v := ?vr2_1_5) rfl (by kernel_rfl) (by kernel_rfl) (by kernel_rfl) ?hqr2_1_5 (Or.inl ⟨by kernel_rfl, ?hyr2_1_5⟩) (by assumption) ?restr2_1_5
                  case hqr2_1_5 => exact fun _ _ _ h => h
                  case hyr2_1_5 => (intro w hSw; (try dsimp only at hSw); go_simp; try with_reducible rfl)
                  try simp only [Act.put, List.getElem_toArray, List.getElem_cons_succ, List.getElem_cons_zero, List.setIfInBounds_toArray, List.set_cons_zero, List.set_cons_succ]
                  refine wpAnyH_take (i := 6) (oi := _) (v := ?vr2_1_6) rfl (by kernel_rfl) (by kernel_rfl) (by kernel_rfl) ?hqr2_1_6 (Or.inl ⟨by kernel_rfl, ?hyr2_1_6⟩) (by assumption) ?restr2_1_6
                  case hqr2_1_6 => exact fun _ _ _ h => h
                  case hyr2_1_6 => (intro w hSw; (try dsimp only at hSw); go_simp; try with_reducible rfl)
                  try simp only [Act.put, List.getElem_toArray, List.getElem_cons_succ, List.getElem_cons_zero, List.setIfInBounds_toArray, List.set_cons_zero, List.set_cons_succ]
                  refine wpAnyH_take (i := 7) (oi := _) (v := ?vr2_1_7) rfl (by kernel_rfl) (by kernel_rfl) (by kernel_rfl) ?hqr2_1_7 (Or.inl ⟨by kernel_rfl, ?hyr2_1_7⟩) (by assumption) ?restr2_1_7
                  case hqr2_1_7 => exact fun _ _ _ h => h
                  case hyr2_1_7 => (intro w hSw; (try dsimp only at hSw); go_simp; try with_reducible rfl)
                  try simp only [Act.put, List.getElem_toArray, List.getElem_cons_succ, List.getElem_cons_zero, List.setIfInBounds_toArray, List.set_cons_zero, List.set_cons_succ]
                  refine wpAnyH_take (i := 8) (oi := _) (v := ?vr2_1_8) rfl (by kernel_rfl) (by kernel_rfl) (by kernel_rfl) ?hqr2_1_8 (Or.inl ⟨by kernel_rfl, ?hyr2_1_8⟩) (by assumption) ?restr2_1_8
                  case hqr2_1_8 => exact fun _ _ _ h => h
                  case hyr2_1_8 => (intro w hSw; (try dsimp only at hSw); go_simp; try with_reducible rfl)
                  try simp only [Act.put, List.getElem_toArray, List.getElem_cons_succ, List.getElem_cons_zero, List.setIfInBounds_toArray, List.set_cons_zero, List.set_cons_succ]
                  refine wpAnyH_take (i := 9) (oi := _) (v := ?vr2_1_9) rfl (by kernel_rfl) (by kernel_rfl) (by kernel_rfl) ?hqr2_1_9 (Or.inl ⟨by kernel_rfl, ?hyr2_1_9⟩) (by assumption) ?restr2_1_9
                  case hqr2_1_9 => exact fun _ _ _ h => h
                  case hyr2_1_9 => (intro w hSw; (try dsimp only at hSw); go_simp; try with_reducible rfl)
                  try simp only [Act.put, List.getElem_toArray, List.getElem_cons_succ, List.getElem_cons_zero, List.setIfInBounds_toArray, List.set_cons_zero, List.set_cons_succ]
                  refine wpAnyH_take (i := 10) (oi := _) (v := ?vr2_1_10) rfl (by kernel_rfl) (by kernel_rfl) (by kernel_rfl) ?hqr2_1_10 (Or.inl ⟨by kernel_rfl, ?hyr2_1_10⟩) (by assumption) ?restr2_1_10
                  case hqr2_1_10 => exact fun _ _ _ h => h
                  case hyr2_1_10 => (intro w hSw; (try dsimp only at hSw); go_simp; try with_reducible rfl)
                  try simp only [Act.put, List.getElem_toArray, List.getElem_cons_succ, List.getElem_cons_zero, List.setIfInBounds_toArray, List.set_cons_zero, List.set_cons_succ]
                  refine wpAnyH_take (i := 11) (oi := _) (v := ?vr2_1_11) rfl (by kernel_rfl) (by kernel_rfl) (by kernel_rfl) ?hqr2_1_11 (Or.inl ⟨by kernel_rfl, ?hyr2_1_11⟩) (by assumption) ?restr2_1_11
                  case hqr2_1_11 => exact fun _ _ _ h => h
                  case hyr2_1_11 => (intro w hSw; (try dsimp only at hSw); go_simp; try with_reducible rfl)
                  try simp only [Act.put, List.getElem_toArray, List.getElem_cons_succ, List.getElem_cons_zero, List.setIfInBounds_toArray, List.set_cons_zero, List.set_cons_succ]
                  refine wpAnyH_take (i := 12) (oi := _) (v := ?vr2_1_12) rfl (by kernel_rfl) (by kernel_rfl) (by kernel_rfl) ?hqr2_1_12 (Or.inl ⟨by kernel_rfl, ?hyr2_1_12⟩) (by assumption) ?restr2_1_12
                  case hqr2_1_12 => exact fun _ _ _ h => h
                  case hyr2_1_12 => (intro w hSw; (try dsimp only at hSw); go_simp; try with_reducible rfl)
                  try simp only [Act.put, List.getElem_toArray, List.getElem_cons_succ, List.getElem_cons_zero, List.setIfInBounds_toArray, List.set_cons_zero, List.set_cons_succ]
                  refine wpAnyH_done (by kernel_rfl) ?_ _
                  refine NoPanic.normal ?_
                  go_wp2
                  go_roundw
                  case rel => exact ⟨j + 1, by omega, by go_num, HJN.out hxy, HBI.out.drew⟩
                  case measure => simp [intOf]; omega
              · obtain rfl : j = k := by omega
                have ht := HNX.out (by rw [HCB.out, HJ.out]; rfl)
                have HTT := Lib.hid ht
                clear ht HJ
                go_wp2
                go_roundw
                case rel => exact ⟨j + 1, by omega, by go_num, HB45.out.then_ HBI.out, HTT.out⟩
                case measure => simp [intOf]; omega
        · obtain rfl : k = cols.length := by omega
          have hl1 := HB.out.c HL1.out
          have hl2 := HB.out.c HL2.out
          have HRN : Hid (R = (!key.any (nullAt cols) && !uq.any (fun l => !setB l cols.length))) := by
            show _ = _
            rw [HR.out]; unfold rightS
            have : (List.range cols.length).all (colB cols) = true := by rw [List.all_eq_true]; exact fun i hi => HT.out i (List.mem_range.1 hi)
            rw [decide_eq_true h1, HSB.out, this]; rfl
          clear HT hlt hk
          go_wp2
          have HBW := Lib.hid (HW4.out.then_ HB.out)
          have HL0r := Lib.hid hl0
          have HL1r := Lib.hid hl1
          have HL2r := Lib.hid hl2
          clear hl0 hl1 hl2
          go_loopw [6] (fun i wi => ∃ j : Nat, j ≤ key.length ∧ i = .int .i64 j ∧ Hid ((key.take j).any (nullAt cols) = false) ∧ Hid (Bel wr wi)) (fun i _ => key.length - (intOf i).toNat)
          case atStart => exact ⟨0, Nat.zero_le _, rfl, (by show _ = _; simp), Bel.refl wr⟩
          case round =>
            rename_i wi
            obtain ⟨j, hj, rfl, HJ, HBI⟩ := hrel
            have hl1 := HBI.out.c HL1r.out
            by_cases hjk : j < key.length
            · obtain ⟨y, hy⟩ : ∃ y, key[j]? = some y := ⟨_, List.getElem?_eq_getElem hjk⟩
              obtain ⟨bk, ok, rfl, hki⟩ := HRK.out (by omega)
              obtain ⟨g0, g1⟩ := setB_in HSB.out y (List.mem_of_getElem? hy)
              obtain ⟨n, rfl⟩ := Int.eq_ofNat_of_zero_le g0
              have hn : n < cols.length := by omega
              obtain ⟨x, hx⟩ : ∃ x, cols[n]? = some x := ⟨_, List.getElem?_eq_getElem hn⟩
              have hnul : nullAt cols (n : Int) = x.null := by unfold nullAt; simp [hx]
              have k1 := (HBI.out.drew).c HL0r.out
              have k2 := (HBI.out.drew).c HL1r.out
              have k3 := (HBW.out.then_ HBI.out).drew.c (hki j (n : Int) hy)
              have k4 := (HBW.out.then_ HBI.out).drew.c (HCI.out n x hx).2.2.2
              have hjI : (j : Int) < key.length := by omega
              have hnJ : (n : Int) < cols.length := by omega
              have HHIT : Hid (x.null = true → R = false) := fun e => by
                rw [HRN.out, show key.any (nullAt cols) = true from List.any_eq_true.2 ⟨(n : Int), List.mem_of_getElem? hy, by rw [hnul]; exact e⟩]; rfl
              have HJN : Hid (x.null = false → (key.take (j + 1)).any (nullAt cols) = false) := fun e => by
                rw [List.take_add_one, hy, List.any_append, HJ.out]
                simp [hnul, e]
              clear hy hx hnul hki g0 g1
              generalize x.null = nb at *
              cases nb
              · have ht := Lib.hid (HJN.out rfl)
                go_wp2
                refine wp_region_noPanic ?_
                refine wp_region_held_drew (S := (fun V : World => V.cell? ⟨w.heap.size, 0, none⟩ = some (.slice (some ⟨b, off, none⟩) cols.length cc) ∧ V.cell? ⟨w.heap.size, 1, none⟩ = some (.slice (some ⟨bk, ok, none⟩) key.length ck) ∧ V.cell? ⟨bk, ok + j, none⟩ = some (.int .i64 n) ∧ V.cell? ⟨b, off + n * 4 + 3, none⟩ = some (.bool false))) (by kernel_rfl) ?_ (fun hHr3_0 => ?_)
                · (try dsimp only); exact ⟨k1, k2, k3, k4⟩
                refine wpAnyH_take (i := 0) (oi := _) (v := ?vr3_1_0) rfl (by kernel_rfl) (by kernel_rfl) (by kernel_rfl) ?hqr3_1_0 (Or.inl ⟨by kernel_rfl, ?hyr3_1_0⟩) (by assumption) ?restr3_1_0
                case hqr3_1_0 => exact fun _ _ _ h => h
                case hyr3_1_0 => (intro w hSw; (try dsimp only at hSw); go_simp; try with_reducible rfl)
                try simp only [Act.put, List.getElem_toArray, List.getElem_cons_succ, List.getElem_cons_zero, List.setIfInBounds_toArray, List.set_cons_zero, List.set_cons_succ]
                refine wpAnyH_take (i := 1) (oi := _) (v := ?vr3_1_1) rfl (by kernel_rfl) (by kernel_rfl) (by kernel_rfl) ?hqr3_1_1 (Or.inl ⟨by kernel_rfl, ?hyr3_1_1⟩) (by assumption) ?restr3_1_1
                case hqr3_1_1 => exact fun _ _ _ h => h
                case hyr3_1_1 => (intro w hSw; (try dsimp only at hSw); go_simp; try with_reducible rfl)
                try simp only [Act.put, List.getElem_toArray, List.getElem_cons_succ, List.getElem_cons_zero, List.setIfInBounds_toArray, List.set_cons_zero, List.set_cons_succ]
                refine wpAnyH_take (i := 2) (oi := _) (v := ?vr3_1_2) rfl (by kernel_rfl) (by kernel_rfl) (by kernel_rfl) ?hqr3_1_2 (Or.inl ⟨by kernel_rfl, ?hyr3_1_2⟩) (by assumption) ?restr3_1_2
                case hqr3_1_2 => exact fun _ _ _ h => h
                case hyr3_1_2 => (intro w hSw; (try dsimp only at hSw); go_simp; try with_reducible rfl)
                try simp only [Act.put, List.getElem_toArray, List.getElem_cons_succ, List.getElem_cons_zero, List.setIfInBounds_toArray, List.set_cons_zero, List.set_cons_succ]
                refine wpAnyH_take (i := 3) (oi := _) (v := ?vr3_1_3) rfl (by kernel_rfl) (by kernel_rfl) (by kernel_rfl) ?hqr3_1_3 (Or.inl ⟨by kernel_rfl, ?hyr3_1_3⟩) (by assumption) ?restr3_1_3
                case hqr3_1_3 => exact fun _ _ _ h => h
                case hyr3_1_3 => (intro w hSw; (try dsimp only at hSw); go_simp; try with_reducible rfl)
                try simp only [Act.put, List.getElem_toArray, List.getElem_cons_succ, List.getElem_cons_zero, List.setIfInBounds_toArray, List.set_cons_zero, List.set_cons_succ]
                refine wpAnyH_take (i := 4) (oi := _) (v := ?vr3_1_4) rfl (by kernel_rfl) (by kernel_rfl) (by kernel_rfl) ?hqr3_1_4 (Or.inl ⟨by kernel_rfl, ?hyr3_1_4⟩) (by assumption) ?restr3_1_4
                case hqr3_1_4 => exact fun _ _ _ h => h
                case hyr3_1_4 => (intro w hSw; (try dsimp only at hSw); go_simp; try with_reducible rfl)
                try simp only [Act.put, List.getElem_toArray, List.getElem_cons_succ, List.getElem_cons_zero, List.setIfInBounds_toArray, List.set_cons_zero, List.set_cons_succ]
                refine wpAnyH_take (i := 5) (oi := _) (v := ?vr3_1_5) rfl (by kernel_rfl) (by kernel_rfl) (by kernel_rfl) ?hqr3_1_5 (Or.inl ⟨by kernel_rfl, ?hyr3_1_5⟩) (by assumption) ?restr3_1_5
                case hqr3_1_5 => exact fun _ _ _ h => h
                case hyr3_1_5 => (intro w hSw; (try dsimp only at hSw); go_simp; try with_reducible rfl)
                try simp only [Act.put, List.getElem_toArray, List.getElem_cons_succ, List.getElem_cons_zero, List.setIfInBounds_toArray, List.set_cons_zero, List.set_cons_succ]
                refine wpAnyH_take (i := 6) (oi := _) (v := ?vr3_1_6) rfl (by kernel_rfl) (by kernel_rfl) (by kernel_rfl) ?hqr3_1_6 (Or.inl ⟨by kernel_rfl, ?hyr3_1_6⟩) (by assumption) ?restr3_1_6
                case hqr3_1_6 => exact fun _ _ _ h => h
                case hyr3_1_6 => (intro w hSw; (try dsimp only at hSw); go_simp; try with_reducible rfl)
                try simp only [Act.put, List.getElem_toArray, List.getElem_cons_succ, List.getElem_cons_zero, List.setIfInBounds_toArray, List.set_cons_zero, List.set_cons_succ]
                refine wpAnyH_take (i := 7) (oi := _) (v := ?vr3_1_7) rfl (by kernel_rfl) (by kernel_rfl) (by kernel_rfl) ?hqr3_1_7 (Or.inl ⟨by kernel_rfl, ?hyr3_1_7⟩) (by assumption) ?restr3_1_7
                case hqr3_1_7 => exact fun _ _ _ h => h
                case hyr3_1_7 => (intro w hSw; (try dsimp only at hSw); go_simp; try with_reducible rfl)
                try simp only [Act.put, List.getElem_toArray, List.getElem_cons_succ, List.getElem_cons_zero, List.setIfInBounds_toArray, List.set_cons_zero, List.set_cons_succ]
                refine wpAnyH_take (i := 8) (oi := _) (v := ?vr3_1_8) rfl (by kernel_rfl) (by kernel_rfl) (by kernel_rfl) ?hqr3_1_8 (Or.inl ⟨by kernel_rfl, ?hyr3_1_8⟩) (by assumption) ?restr3_1_8
                case hqr3_1_8 => exact fun _ _ _ h => h
                case hyr3_1_8 => (intro w hSw; (try dsimp only at hSw); go_simp; try with_reducible rfl)
                try simp only [Act.put, List.getElem_toArray, List.getElem_cons_succ, List.getElem_cons_zero, List.setIfInBounds_toArray, List.set_cons_zero, List.set_cons_succ]
                refine wpAnyH_take (i := 9) (oi := _) (v := ?vr3_1_9) rfl (by kernel_rfl) (by kernel_rfl) (by kernel_rfl) ?hqr3_1_9 (Or.inl ⟨by kernel_rfl, ?hyr3_1_9⟩) (by assumption) ?restr3_1_9
                case hqr3_1_9 => exact fun _ _ _ h => h
                case hyr3_1_9 => (intro w hSw; (try dsimp only at hSw); go_simp; try with_reducible rfl)
                try simp only [Act.put, List.getElem_toArray, List.getElem_cons_succ, List.getElem_cons_zero, List.setIfInBounds_toArray, List.set_cons_zero, List.set_cons_succ]
                refine wpAnyH_done (by kernel_rfl) ?_ _
                refine NoPanic.normal ?_
                go_wp2
                go_roundw
                case rel => exact ⟨j + 1, by omega, by go_num, ht.out, HBI.out.drew⟩
                case measure => simp [intOf]; omega
              · have hf : R = false := HHIT.out rfl
                go_wp2
                refine wp_region_noPanic ?_
                refine wp_region_held_drew (S := (fun V : World => V.cell? ⟨w.heap.size, 0, none⟩ = some (.slice (some ⟨b, off, none⟩) cols.length cc) ∧ V.cell? ⟨w.heap.size, 1, none⟩ = some (.slice (some ⟨bk, ok, none⟩) key.length ck) ∧ V.cell? ⟨bk, ok + j, none⟩ = some (.int .i64 n) ∧ V.cell? ⟨b, off + n * 4 + 3, none⟩ = some (.bool true))) (by kernel_rfl) ?_ (fun hHr4_0 => ?_)
                · (try dsimp only); exact ⟨k1, k2, k3, k4⟩
                refine wpAnyH_take (i := 0) (oi := _) (v := ?vr4_1_0) rfl (by kernel_rfl) (by kernel_rfl) (by kernel_rfl) ?hqr4_1_0 (Or.inl ⟨by kernel_rfl, ?hyr4_1_0⟩) (by assumption) ?restr4_1_0
                case hqr4_1_0 => exact fun _ _ _ h => h
                case hyr4_1_0 => (intro w hSw; (try dsimp only at hSw); go_simp; try with_reducible rfl)
                try simp only [Act.put, List.getElem_toArray, List.getElem_cons_succ, List.getElem_cons_zero, List.setIfInBounds_toArray, List.set_cons_zero, List.set_cons_succ]
                refine wpAnyH_take (i := 1) (oi := _) (v := ?vr4_1_1) rfl (by kernel_rfl) (by kernel_rfl) (by kernel_rfl) ?hqr4_1_1 (Or.inl ⟨by kernel_rfl, ?hyr4_1_1⟩) (by assumption) ?restr4_1_1
                case hqr4_1_1 => exact fun _ _ _ h => h
                case hyr4_1_1 => (intro w hSw; (try dsimp only at hSw); go_simp; try with_reducible rfl)
                try simp only [Act.put, List.getElem_toArray, List.getElem_cons_succ, List.getElem_cons_zero, List.setIfInBounds_toArray, List.set_cons_zero, List.set_cons_succ]
                refine wpAnyH_take (i := 2) (oi := _) (v := ?vr4_1_2) rfl (by kernel_rfl) (by kernel_rfl) (by kernel_rfl) ?hqr4_1_2 (Or.inl ⟨by kernel_rfl, ?hyr4_1_2⟩) (by assumption) ?restr4_1_2
                case hqr4_1_2 => exact fun _ _ _ h => h
                case hyr4_1_2 => (intro w hSw; (try dsimp only at hSw); go_simp; try with_reducible rfl)
                try simp only [Act.put, List.getElem_toArray, List.getElem_cons_succ, List.getElem_cons_zero, List.setIfInBounds_toArray, List.set_cons_zero, List.set_cons_succ]
                refine wpAnyH_take (i := 3) (oi := _) (v := ?vr4_1_3) rfl (by kernel_rfl) (by kernel_rfl) (by kernel_rfl) ?hqr4_1_3 (Or.inl ⟨by kernel_rfl, ?hyr4_1_3⟩) (by assumption) ?restr4_1_3
                case hqr4_1_3 => exact fun _ _ _ h => h
                case hyr4_1_3 => (intro w hSw; (try dsimp only at hSw); go_simp; try with_reducible rfl)
                try simp only [Act.put, List.getElem_toArray, List.getElem_cons_succ, List.getElem_cons_zero, List.setIfInBounds_toArray, List.set_cons_zero, List.set_cons_succ]
                refine wpAnyH_take (i := 4) (oi := _) (v := ?vr4_1_4) rfl (by kernel_rfl) (by kernel_rfl) (by kernel_rfl) ?hqr4_1_4 (Or.inl ⟨by kernel_rfl, ?hyr4_1_4⟩) (by assumption) ?restr4_1_4
                case hqr4_1_4 => exact fun _ _ _ h => h
                case hyr4_1_4 => (intro w hSw; (try dsimp only at hSw); go_simp; try with_reducible rfl)
                try simp only [Act.put, List.getElem_toArray, List.getElem_cons_succ, List.getElem_cons_zero, List.setIfInBounds_toArray, List.set_cons_zero, List.set_cons_succ]
                refine wpAnyH_take (i := 5) (oi := _) (v := ?vr4_1_5) rfl (by kernel_rfl) (by kernel_rfl) (by kernel_rfl) ?hqr4_1_5 (Or.inl ⟨by kernel_rfl, ?hyr4_1_5⟩) (by assumption) ?restr4_1_5
                case hqr4_1_5 => exact fun _ _ _ h => h
                case hyr4_1_5 => (intro w hSw; (try dsimp only at hSw); go_simp; try with_reducible rfl)
                try simp only [Act.put, List.getElem_toArray, List.getElem_cons_succ, List.getElem_cons_zero, List.setIfInBounds_toArray, List.set_cons_zero, List.set_cons_succ]
                refine wpAnyH_take (i := 6) (oi := _) (v := ?vr4_1_6) rfl (by kernel_rfl) (by kernel_rfl) (by kernel_rfl) ?hqr4_1_6 (Or.inl ⟨by kernel_rfl, ?hyr4_1_6⟩) (by assumption) ?restr4_1_6
                case hqr4_1_6 => exact fun _ _ _ h => h
                case hyr4_1_6 => (intro w hSw; (try dsimp only at hSw); go_simp; try with_reducible rfl)
                try simp only [Act.put, List.getElem_toArray, List.getElem_cons_succ, List.getElem_cons_zero, List.setIfInBounds_toArray, List.set_cons_zero, List.set_cons_succ]
                refine wpAnyH_take (i := 7) (oi := _) (v := ?vr4_1_7) rfl (by kernel_rfl) (by kernel_rfl) (by kernel_rfl) ?hqr4_1_7 (Or.inl ⟨by kernel_rfl, ?hyr4_1_7⟩) (by assumption) ?restr4_1_7
                case hqr4_1_7 => exact fun _ _ _ h => h
                case hyr4_1_7 => (intro w hSw; (try dsimp only at hSw); go_simp; try with_reducible rfl)
                try simp only [Act.put, List.getElem_toArray, List.getElem_cons_succ, List.getElem_cons_zero, List.setIfInBounds_toArray, List.set_cons_zero, List.set_cons_succ]
                refine wpAnyH_take (i := 8) (oi := _) (v := ?vr4_1_8) rfl (by kernel_rfl) (by kernel_rfl) (by kernel_rfl) ?hqr4_1_8 (Or.inl ⟨by kernel_rfl, ?hyr4_1_8⟩) (by assumption) ?restr4_1_8
                case hqr4_1_8 => exact fun _ _ _ h => h
                case hyr4_1_8 => (intro w hSw; (try dsimp only at hSw); go_simp; try with_reducible rfl)
                try simp only [Act.put, List.getElem_toArray, List.getElem_cons_succ, List.getElem_cons_zero, List.setIfInBounds_toArray, List.set_cons_zero, List.set_cons_succ]
                refine wpAnyH_take (i := 9) (oi := _) (v := ?vr4_1_9) rfl (by kernel_rfl) (by kernel_rfl) (by kernel_rfl) ?hqr4_1_9 (Or.inl ⟨by kernel_rfl, ?hyr4_1_9⟩) (by assumption) ?restr4_1_9
                case hqr4_1_9 => exact fun _ _ _ h => h
                case hyr4_1_9 => (intro w hSw; (try dsimp only at hSw); go_simp; try with_reducible rfl)
                try simp only [Act.put, List.getElem_toArray, List.getElem_cons_succ, List.getElem_cons_zero, List.setIfInBounds_toArray, List.set_cons_zero, List.set_cons_succ]
                refine wpAnyH_done (by kernel_rfl) ?_ _
                refine NoPanic.normal ?_
                go_wp2
                go_ret
                exact ⟨by first | rfl | (rw [hf]; rfl), (HBW.out.then_ HBI.out).drew⟩
            · obtain rfl : j = key.length := by omega
              have HRM : Hid (R = !uq.any (fun l => !setB l cols.length)) := by
                show _ = _
                have := HJ.out
                rw [List.take_length] at this
                rw [HRN.out, this]; rfl
              clear HJ hjk hj HRN
              go_wp2
              have HBX := Lib.hid (HBW.out.then_ HBI.out)
              have HL2s := Lib.hid (HBI.out.c HL2r.out)
              clear hl1
              go_loopw [7] (fun i wu => ∃ j : Nat, j ≤ uq.length ∧ i = .int .i64 j ∧ Hid ((uq.take j).any (fun l => !setB l cols.length) = false) ∧ Hid (Bel wr wu)) (fun i _ => uq.length - (intOf i).toNat)
              case atStart => exact ⟨0, Nat.zero_le _, rfl, (by show _ = _; simp), Bel.refl wr⟩
              case round =>
                obtain ⟨j, hj, rfl, HJ, HBU⟩ := hrel
                have hl2 := HBU.out.c HL2s.out
                by_cases hjk : j < uq.length
                · obtain ⟨y, hy⟩ : ∃ y, uq[j]? = some y := ⟨_, List.getElem?_eq_getElem hjk⟩
                  obtain ⟨bu, ou, rfl, hui⟩ := HRU.out (by omega)
                  obtain ⟨u, hu0, hu1⟩ := hui j y hy
                  have hcu0 := (HBX.out.then_ HBU.out).c hu0
                  have HSE := Lib.hid (HLS.out wr u y (hu1.bel (HBX.out.then_ HBU.out)))
                  have hjI : (j : Int) < uq.length := by omega
                  have HHIT : Hid (setB y cols.length = false → R = false) := fun e => by
                    rw [HRM.out, show uq.any (fun l => !setB l cols.length) = true from List.any_eq_true.2 ⟨y, List.mem_of_getElem? hy, by rw [e]; rfl⟩]; rfl
                  have HJN : Hid (setB y cols.length = true → (uq.take (j + 1)).any (fun l => !setB l cols.length) = false) := fun e => by
                    rw [List.take_add_one, hy, List.any_append, HJ.out]
                    simp [e]
                  clear hy hui hu0 hu1
                  generalize setB y cols.length = sb at *
                  cases sb
                  · have hf : R = false := HHIT.out rfl
                    go_wp2_with (go_at_call 69; refine HSE.out.mono ?_; rintro e w8 ⟨rfl, hb8⟩)
                    go_ret
                    exact ⟨by first | rfl | (rw [hf]; rfl), (HBX.out.then_ HBU.out).then_ hb8⟩
                  · have ht := Lib.hid (HJN.out rfl)
                    go_wp2_with (go_at_call 69; refine HSE.out.mono ?_; rintro e w8 ⟨rfl, hb8⟩)
                    go_roundw
                    case rel => exact ⟨j + 1, by omega, by go_num, ht.out, HBU.out.then_ hb8⟩
                    case measure => simp [intOf]; omega
                · obtain rfl : j = uq.length := by omega
                  have ht : R = true := by
                    have := HJ.out
                    rw [List.take_length] at this
                    rw [HRM.out, this]; rfl
                  clear HJ hjk hj
                  go_wp2
                  go_ret
                  exact ⟨by first | rfl | (rw [ht]; rfl), HBX.out.then_ HBU.out⟩
  · have hf : R = false := by rw [HR.out]; unfold rightS; rw [decide_eq_false h1]; rfl
    subst hf
    by_cases n1 : (cols.length : Int) < 1
    · have b4 : decide ((1 : Int) ≤ cols.length) = false := by simp; omega
      go_enter Tryz.func31, Tryz.ntmps31
      go_wp2_with fail
      all_goals
        go_ret
        exact ⟨rfl, by (repeat (first | exact Below.refl _ _ | assumption | exact Bel.refl _ | refine Bel.alloc ?_ _ | refine Bel.drew ?_ | refine Bel.drewN ?_ _ | refine Bel.then_ ?_ (by assumption) | refine Bel.setCell ?_ (by first | (simp; done) | (simp; omega)) _))⟩
    · have n1b : decide ((cols.length : Int) < 1) = false := by simp; omega
      by_cases n2 : (8 : Int) < cols.length
      · go_enter Tryz.func31, Tryz.ntmps31
        go_wp2_with fail
        all_goals
          go_ret
          exact ⟨rfl, by (repeat (first | exact Below.refl _ _ | assumption | exact Bel.refl _ | refine Bel.alloc ?_ _ | refine Bel.drew ?_ | refine Bel.drewN ?_ _ | refine Bel.then_ ?_ (by assumption) | refine Bel.setCell ?_ (by first | (simp; done) | (simp; omega)) _))⟩
      · have n2b : decide ((8 : Int) < cols.length) = false := by simp; omega
        have n3 : (3 : Int) < uq.length := by omega
        go_enter Tryz.func31, Tryz.ntmps31
        go_wp2_with fail
        all_goals
          go_ret
          exact ⟨rfl, by (repeat (first | exact Below.refl _ _ | assumption | exact Bel.refl _ | refine Bel.alloc ?_ _ | refine Bel.drew ?_ | refine Bel.drewN ?_ _ | refine Bel.then_ ?_ (by assumption) | refine Bel.setCell ?_ (by first | (simp; done) | (simp; omega)) _))⟩
end Go.Proofs.YtkklmflclmgjeaaGreatDoor

/-
  errors.Is at a schema's fault; rows of a schema.
-/
set_option linter.unusedVariables false
set_option linter.unusedSimpArgs false
set_option linter.unusedVariables false
set_option linter.unusedSimpArgs false
namespace Go.Proofs.YtkklmflclmgjeaaGreatDoor
open Go.RowKit Go.Shelf Go.Lib Go.Extern.Stop Go.Stop Go.Extern
attribute [local go_sem] Oper.semAt_some

theorem eqlIn_errno {P : Program} {ti tn : TypeId} {ms : Array (String × TypeId)} {i : TypeInfo} {k : IntKind} (hi : P.underlying ti = some (.interface ms)) (hn : P.underlying tn = some (.int k)) (hinfo : P.info? tn = some i) (hcomp : i.comparable = true) (d : Nat) (a b : Int) (w : World) :
    (Op.equalIn (d + 2) ti (.iface tn (.int k a)) (.iface tn (.int k b))).run P w = .ok (a == b) w := by
  simp [Op.equalIn, run_underlying hi, run_underlying hn, typeInfo, hinfo, hcomp]
theorem eql_errno {P : Program} {ti tn : TypeId} {ms : Array (String × TypeId)} {i : TypeInfo} {k : IntKind} (hi : P.underlying ti = some (.interface ms)) (hn : P.underlying tn = some (.int k)) (hinfo : P.info? tn = some i) (hcomp : i.comparable = true) (a b : Int) (w : World) :
    (binOp .eql ti (.iface tn (.int k a)) (.iface tn (.int k b))).run P w = .ok (.bool (a == b)) w := by
  simp only [binOp]
  simp [Op.equal, Op.maxDepth, eqlIn_errno hi hn hinfo hcomp 9998 a b w]
def comparableOf : Array Value → Sem Value := Extern.ReflectliteType.method fun t => do Rtype.noPackHeld "Comparable" t; pure (.bool (← typeInfo t).comparable)
theorem isComparable (w : World) : (comparableOf #[.agg #[.pointer (some ⟨4, 32, none⟩)]]).run Tryz.prog w = .ok (.bool true) w := by kernel_rfl
theorem isMComparable (v : Value) (w : World) : (Go.method 390 218 v "Comparable").run Tryz.prog w = .ok (222, v) w := by kernel_rfl
theorem isComp : (Tryz.prog.info? 32).map (·.comparable) = some true := by kernel_rfl
theorem isEnoIs (v : Value) (xT : TypeId) (w : World) : (Instr.typeAssert (.iface 32 v) xT 230 true).run Tryz.prog w = .ok (.tuple #[.nilIface, .bool false]) w := run_typeAssert_lacksB Tryz.underlying230 (by kernel_rfl) (by kernel_rfl) v xT w
theorem isEnoUnwrap (v : Value) (xT : TypeId) (w : World) : (Instr.typeAssert (.iface 32 v) xT 225 true).run Tryz.prog w = .ok (.tuple #[.nilIface, .bool false]) w := run_typeAssert_lacksB Tryz.underlying225 (by kernel_rfl) (by kernel_rfl) v xT w
theorem isEnoUnwraps (v : Value) (xT : TypeId) (w : World) : (Instr.typeAssert (.iface 32 v) xT 227 true).run Tryz.prog w = .ok (.tuple #[.nilIface, .bool false]) w := run_typeAssert_lacksB Tryz.underlying227 (by kernel_rfl) (by kernel_rfl) v xT w
theorem isFnoIs (v : Value) (xT : TypeId) (w : World) : (Instr.typeAssert (.iface 149 v) xT 230 true).run Tryz.prog w = .ok (.tuple #[.nilIface, .bool false]) w := run_typeAssert_lacksB Tryz.underlying230 (by kernel_rfl) (by kernel_rfl) v xT w

set_option maxRecDepth 100000 in
theorem is_nil (j : Int) (w : World) : Calls Tryz.prog 93 #[.nilIface, .iface 32 (.int .i64 j)] w fun e w' => e = .returned (.bool false) ∧ w = w' := by
  have hq := fun (w : World) => (show (binOp .eql 91 .nilIface (.iface 32 (.int .i64 j))).run Tryz.prog w = .ok (.bool false) w by kernel_rfl)
  go_enter Tryz.func93, Tryz.ntmps93
  go_wp2
  go_ret
  exact ⟨rfl, rfl⟩
set_option maxRecDepth 100000 in
set_option maxHeartbeats 1000000 in
theorem is_fault (p : Nat) (k j : Int) (w : World) (hp : SFaultAt w p k) : Calls Tryz.prog 93 #[.iface 149 (.pointer (some ⟨p, 0, none⟩)), .iface 32 (.int .i64 j)] w fun e w' => e = .returned (.bool (k == j)) ∧ w = w' := by
  obtain ⟨i, hi, hcmp⟩ := Option.map_eq_some_iff.1 isComp
  obtain ⟨fl, hp⟩ := hp
  have hwhy : w.cell? ⟨p, 1, none⟩ = some (.iface 32 (.int .i64 k)) := by simp [World.cell?, hp]
  clear hp
  have h1 := @run_callFunc_extern Tryz.prog 137 _ Extern.ReflectliteType.typeOf Tryz.func137 (by kernel_rfl) (by kernel_rfl) (by kernel_rfl) (by kernel_rfl)
  have h2 := @run_callFunc_extern Tryz.prog 222 _ comparableOf Tryz.func222 (by kernel_rfl) (by kernel_rfl) (by kernel_rfl) (by kernel_rfl)
  have tT := asTypeOf
  have cT := isComparable
  have mR := isMComparable
  have nE := isEnoIs
  have uE := isEnoUnwrap
  have vE := isEnoUnwraps
  have nF := isFnoIs
  have uF := asHasUnwrap
  have mU := asMUnwrap
  have heq := eql_errno (P := Tryz.prog) Tryz.underlying91 Tryz.underlying32 hi hcmp k j
  have hne := fun (v u : Value) (w : World) => run_eql_iface_types (P := Tryz.prog) 149 32 v u Tryz.underlying91 (by decide) w
  clear hi hcmp
  by_cases hab : (k == j) = true
  · rw [hab] at heq ⊢
    have HAB := Lib.hid hab
    clear hab
    go_enter Tryz.func93, Tryz.ntmps93
    go_wp2
    refine wp_loop_rounds 2 ?_
    rw [rounds_succ]
    go_wp2
    rw [rounds_succ]
    go_wp2
    go_ret
    exact ⟨rfl, rfl⟩
  · rw [Bool.not_eq_true] at hab
    rw [hab] at heq ⊢
    have HAB := Lib.hid hab
    clear hab
    go_enter Tryz.func93, Tryz.ntmps93
    go_wp2
    refine wp_loop_rounds 2 ?_
    rw [rounds_succ]
    go_wp2
    rw [rounds_succ]
    go_wp2
    go_ret
    exact ⟨rfl, rfl⟩
theorem scnumber_errno (k : Int) (w : World) (hg : ErrType w) : Calls Tryz.prog 52 #[.iface 32 (.int .i64 k)] w fun e w' => e = .returned (.int .i64 k) ∧ Bel w w' := by
  have hba : Bel w (w.alloc (.cells #[.int .i64 0] 32)) := (Bel.refl w).alloc _
  have H := Lib.hid (as_of 32 (.int .i64 k) k ⟨w.heap.size, 0, none⟩ (.int .i64 0) (w.alloc (.cells #[.int .i64 0] 32)) (hg.bel hba) (by simp) (by simp)
    (fun W b hW h1 h2 h3 => asIn_errno k ⟨w.heap.size, 0, none⟩ b _ _ W h1 h2 h3))
  have HBA := Lib.hid hba
  clear hg hba
  go_enter Tryz.func52, Tryz.ntmps52
  go_wp2_with fail
  refine H.out.mono ?_
  rintro e w1 ⟨rfl, hg1, hc1, hf1⟩
  have HG : Hid (Bel w w1) := Below.grown HBA.out hg1 (by simp) (fun j e => by cases e; exact Nat.le_refl _)
  clear hg1
  go_wp2
  refine bodyPost_ret (v := .int .i64 k) (by simp [results, Tryz.results52, go_sem, hc1, hf1]) rfl ⟨rfl, ?_⟩
  exact HG.out.setCell (Nat.le_refl _) _
theorem scCheck_any (vc vk vu : Value) (cols : List Col) (key : List Int) (uq : List (List Int)) (w : World) (hc : ColsAt w vc cols) (hk : IntsAt w vk key) (hu : ListsAt w vu uq) :
    Calls Tryz.prog 25 #[.agg #[vc, vk, vu]] w fun e w' => e = .returned (.int .i64 (if rightS cols key uq then 0 else 2)) ∧ Bel w w' := by
  have HRI := Lib.hid (fun V (hb : Bel w V) => lookright_any vc vk vu cols key uq V (hc.bel hb) (hk.bel hb) (hu.bel hb))
  clear hc hk hu
  cases hr : rightS cols key uq
  all_goals
    rw [hr] at HRI
    clear hr
    go_enter Tryz.func25, Tryz.ntmps25
    go_wp2_with (go_at_call 60; refine (HRI.out _ (by first | exact Bel.refl w | exact (Bel.refl w).alloc _ | exact ((Bel.refl w).alloc _).alloc _)).mono ?_; rintro e w4 ⟨rfl, hb4⟩)
    go_ret
    exact ⟨rfl, by first | exact hb4 | exact ((Bel.refl w).alloc _).then_ hb4 | exact (((Bel.refl w).alloc _).alloc _).then_ hb4⟩
/-- A list of values lies behind a slice. -/
def ValsAt (w : World) (v : Value) (l : List Val) : Prop := ∃ A c, v = .slice A l.length c ∧ l.length ≤ c ∧ c ≤ maxLen ∧ (0 < l.length → ∃ b off, A = some ⟨b, off, none⟩ ∧ ∀ i (x : Val), l[i]? = some x →
  w.cell? ⟨b, off + i * 4, none⟩ = some (.int .i64 x.k) ∧ w.cell? ⟨b, off + i * 4 + 1, none⟩ = some (.int .i64 x.n) ∧ w.cell? ⟨b, off + i * 4 + 2, none⟩ = some (.int .u64 x.u) ∧ w.cell? ⟨b, off + i * 4 + 3, none⟩ = some (.string x.b))
theorem ValsAt.bel {w w' : World} {v : Value} {l : List Val} (h : ValsAt w v l) (hb : Bel w w') : ValsAt w' v l := by
  obtain ⟨A, c, e, hc, hm, h⟩ := h
  exact ⟨A, c, e, hc, hm, fun hl => by obtain ⟨b, off, ea, hi⟩ := h hl; exact ⟨b, off, ea, fun i x hx => ⟨hb.c (hi i x hx).1, hb.c (hi i x hx).2.1, hb.c (hi i x hx).2.2.1, hb.c (hi i x hx).2.2.2⟩⟩⟩
def firstNZ (f : Nat → Int) : Nat → Nat → Int
  | _, 0 => 0
  | i, n + 1 => if f i ≠ 0 then f i else firstNZ f (i + 1) n
theorem firstNZ_hit (f : Nat → Int) (k : Nat) (hk : f k ≠ 0) : ∀ n i, i ≤ k → k < i + n → (∀ j, i ≤ j → j < k → f j = 0) → firstNZ f i n = f k
  | 0, i, h1, h2, h => by omega
  | n + 1, i, h1, h2, h => by
    unfold firstNZ
    by_cases e : i = k
    · subst e; rw [if_pos hk]
    · rw [if_neg (by rw [h i (Nat.le_refl _) (by omega)]; simp)]
      exact firstNZ_hit f k hk n (i + 1) (by omega) (by omega) (fun j h3 h4 => h j (by omega) h4)
theorem firstNZ_none (f : Nat → Int) : ∀ n i, (∀ j, i ≤ j → j < i + n → f j = 0) → firstNZ f i n = 0
  | 0, i, h => rfl
  | n + 1, i, h => by
    unfold firstNZ
    rw [if_neg (by rw [h i (Nat.le_refl _) (by omega)]; simp)]
    exact firstNZ_none f n (i + 1) (fun j h3 h4 => h j (by omega) (by omega))
def fitAt (cols : List Col) (l : List Val) (i : Nat) : Int := match cols[i]?, l[i]? with
  | some c, some x => fitsI c x
  | _, _ => 0
def rowI (cols : List Col) (l : List Val) : Int := if l.length ≠ cols.length then 130 else firstNZ (fitAt cols l) 0 l.length
end Go.Proofs.YtkklmflclmgjeaaGreatDoor

/-
  Schema: rows.
-/
set_option linter.unusedVariables false
set_option linter.unusedSimpArgs false
set_option linter.unusedVariables false
set_option linter.unusedSimpArgs false
namespace Go.Proofs.YtkklmflclmgjeaaGreatDoor
open Go.RowKit Go.Shelf Go.Lib
attribute [local go_sem] Oper.semAt_some

/-- An error as row makes it: none, a fault, or a number. -/
def RErr (w : World) (v : Value) (k : Int) : Prop := SErr w v k ∨ v = .iface 32 (.int .i64 k)
theorem rnumber_any {w : World} {v : Value} {k : Int} (hg : ErrType w) (h : RErr w v k) : Calls Tryz.prog 52 #[v] w fun e w' => e = .returned (.int .i64 k) ∧ Bel w w' := by
  rcases h with h | rfl
  · exact scnumber_any hg h
  · exact scnumber_errno k w hg
set_option maxRecDepth 100000 in
set_option maxHeartbeats 4000000 in
theorem scrow_any (vc vk vu vl : Value) (cols : List Col) (l : List Val) (w : World) (hc : ColsAt w vc cols) (hl : ValsAt w vl l) (hw : ∀ x ∈ l, x.Wf) :
    Calls Tryz.prog 53 #[.agg #[vc, vk, vu], vl] w fun e w' => ∃ v, e = .returned v ∧ RErr w' v (rowI cols l) ∧ Bel w w' := by
  obtain ⟨R, hR⟩ : ∃ R, R = rowI cols l := ⟨_, rfl⟩
  rw [← hR]
  have HR := Lib.hid hR
  clear hR
  obtain ⟨Ac, cc, rfl, hcc, hmc, hrc⟩ := hc
  obtain ⟨Al, cl, rfl, hcl, hml, hrl⟩ := hl
  have hnI : (cols.length : Int) ≤ 9223372036854775807 := by unfold maxLen at hmc; omega
  have hlI : (l.length : Int) ≤ 9223372036854775807 := by unfold maxLen at hml; omega
  have HRC := Lib.hid hrc
  have HRL := Lib.hid hrl
  have HWF := Lib.hid hw
  clear hrc hrl hmc hml hw
  by_cases hlen : l.length = cols.length
  · have hle : ((l.length : Int) != cols.length) = false := by rw [bne_eq_false_iff_eq]; omega
    have HLEN := Lib.hid hlen
    have HRV : Hid (R = firstNZ (fitAt cols l) 0 l.length) := by show _ = _; rw [HR.out]; unfold rowI; rw [if_neg (by simpa using hlen)]
    clear hlen HR
    go_enter Tryz.func53, Tryz.ntmps53
    go_wp2
    go_loopw [17] (fun i wr => ∃ k : Nat, k ≤ l.length ∧ i = .int .i64 k ∧ Hid (Bel (w.alloc (.cells #[.slice Ac cols.length cc, vk, vu] 26)) wr) ∧ Hid (∀ j, j < k → fitAt cols l j = 0)) (fun i _ => l.length - (intOf i).toNat)
    case atStart => exact ⟨0, Nat.zero_le _, rfl, Bel.refl _, fun j hj => by omega⟩
    case round =>
      obtain ⟨k, hk, rfl, HB, HT⟩ := hrel
      by_cases hlt : k < l.length
      · obtain ⟨y, hy⟩ : ∃ y, l[k]? = some y := ⟨_, List.getElem?_eq_getElem hlt⟩
        obtain ⟨x, hx⟩ : ∃ x, cols[k]? = some x := ⟨_, List.getElem?_eq_getElem (by have := HLEN.out; omega)⟩
        obtain ⟨bl, ol, rfl, hli⟩ := HRL.out (by omega)
        obtain ⟨b, off, rfl, hci⟩ := HRC.out (by have := HLEN.out; omega)
        obtain ⟨q0, q1, q2, q3⟩ := hci k x hx
        obtain ⟨r0, r1, r2, r3⟩ := hli k y hy
        have hbw : Bel w wr := ((Bel.refl w).alloc _).then_ HB.out
        have p0 := hbw.c r0
        have p1 := hbw.c r1
        have p2 := hbw.c r2
        have p3 := hbw.c r3
        have hkI : (k : Int) < l.length := by omega
        have hkc : (k : Int) < cols.length := by have := HLEN.out; omega
        have hfa : fitAt cols l k = fitsI x y := by unfold fitAt; rw [hx, hy]
        have HNX : Hid (fitsI x y = 0 → ∀ j, j < k + 1 → fitAt cols l j = 0) := fun e j hj => by
          by_cases ej : j = k
          · subst ej; rw [hfa]; exact e
          · exact HT.out j (by omega)
        have HNO : Hid (fitsI x y ≠ 0 → R = fitsI x y) := fun e => by
          rw [HRV.out, firstNZ_hit (fitAt cols l) k (by rw [hfa]; exact e) l.length 0 (Nat.zero_le _) (by omega) (fun j _ h => HT.out j h), hfa]
        have hb6 : Bel wr (wr.alloc (.cells #[.int .i64 y.k, .int .i64 y.n, .int .u64 y.u, .string y.b] 48)) := (Bel.refl wr).alloc _
        have HS : Hid (∀ V, Bel (wr.alloc (.cells #[.int .i64 y.k, .int .i64 y.n, .int .u64 y.u, .string y.b] 48)) V → (fun V : World => V.cell? ⟨w.heap.size, 0, none⟩ = some (.slice (some ⟨b, off, none⟩) cols.length cc) ∧ V.cell? ⟨b, off + k * 4, none⟩ = some (.string x.name) ∧ V.cell? ⟨b, off + k * 4 + 1, none⟩ = some (.int .i64 x.t) ∧ V.cell? ⟨b, off + k * 4 + 2, none⟩ = some (.int .i64 x.z) ∧ V.cell? ⟨b, off + k * 4 + 3, none⟩ = some (.bool x.null) ∧ V.cell? ⟨wr.heap.size, 0, none⟩ = some (.int .i64 y.k) ∧ V.cell? ⟨wr.heap.size, 1, none⟩ = some (.int .i64 y.n) ∧ V.cell? ⟨wr.heap.size, 2, none⟩ = some (.int .u64 y.u) ∧ V.cell? ⟨wr.heap.size, 3, none⟩ = some (.string y.b)) V) := fun V h =>
          ⟨((HB.out.then_ hb6).then_ h).c (by go_simp), ((hbw.then_ hb6).then_ h).c q0, ((hbw.then_ hb6).then_ h).c q1, ((hbw.then_ hb6).then_ h).c q2, ((hbw.then_ hb6).then_ h).c q3, h.c (by go_simp), h.c (by go_simp), h.c (by go_simp), h.c (by go_simp)⟩
        have HF := Lib.hid (fun V => scfits_any x y (HWF.out y (List.mem_of_getElem? hy)) V)
        have HB6 := Lib.hid (HB.out.then_ hb6)
        have HLT := Lib.hid hlt
        unfold Val.v Col.v at HF
        clear hx hy hci hli q0 q1 q2 q3 r0 r1 r2 r3 hbw hb6 hfa
        generalize fitsI x y = fi at *
        go_wp2
        refine wp_region_noPanic ?_
        refine wp_region_held_drew (S := (fun V : World => V.cell? ⟨w.heap.size, 0, none⟩ = some (.slice (some ⟨b, off, none⟩) cols.length cc) ∧ V.cell? ⟨b, off + k * 4, none⟩ = some (.string x.name) ∧ V.cell? ⟨b, off + k * 4 + 1, none⟩ = some (.int .i64 x.t) ∧ V.cell? ⟨b, off + k * 4 + 2, none⟩ = some (.int .i64 x.z) ∧ V.cell? ⟨b, off + k * 4 + 3, none⟩ = some (.bool x.null) ∧ V.cell? ⟨wr.heap.size, 0, none⟩ = some (.int .i64 y.k) ∧ V.cell? ⟨wr.heap.size, 1, none⟩ = some (.int .i64 y.n) ∧ V.cell? ⟨wr.heap.size, 2, none⟩ = some (.int .u64 y.u) ∧ V.cell? ⟨wr.heap.size, 3, none⟩ = some (.string y.b))) (by kernel_rfl) ?_ (fun hHr1_0 => ?_)
        · (try dsimp only); (first | assumption | exact HS.out _ (Bel.refl _).drew | exact HS.out _ (Bel.then_ (Bel.refl _).drew hb7))
        refine wpAnyH_take (i := 0) (oi := _) (v := ?vr1_1_0) rfl (by kernel_rfl) (by kernel_rfl) (by kernel_rfl) ?hqr1_1_0 (Or.inl ⟨by kernel_rfl, ?hyr1_1_0⟩) (by assumption) ?restr1_1_0
        case hqr1_1_0 => exact fun _ _ _ h => h
        case hyr1_1_0 => (intro w hSw; (try dsimp only at hSw); go_simp; try with_reducible rfl)
        try simp only [Act.put, List.getElem_toArray, List.getElem_cons_succ, List.getElem_cons_zero, List.setIfInBounds_toArray, List.set_cons_zero, List.set_cons_succ]
        refine wpAnyH_take (i := 1) (oi := _) (v := ?vr1_1_1) rfl (by kernel_rfl) (by kernel_rfl) (by kernel_rfl) ?hqr1_1_1 (Or.inl ⟨by kernel_rfl, ?hyr1_1_1⟩) (by assumption) ?restr1_1_1
        case hqr1_1_1 => exact fun _ _ _ h => h
        case hyr1_1_1 => (intro w hSw; (try dsimp only at hSw); go_simp; try with_reducible rfl)
        try simp only [Act.put, List.getElem_toArray, List.getElem_cons_succ, List.getElem_cons_zero, List.setIfInBounds_toArray, List.set_cons_zero, List.set_cons_succ]
        refine wpAnyH_take (i := 2) (oi := _) (v := ?vr1_1_2) rfl (by kernel_rfl) (by kernel_rfl) (by kernel_rfl) ?hqr1_1_2 (Or.inl ⟨by kernel_rfl, ?hyr1_1_2⟩) (by assumption) ?restr1_1_2
        case hqr1_1_2 => exact fun _ _ _ h => h
        case hyr1_1_2 => (intro w hSw; (try dsimp only at hSw); go_simp; try with_reducible rfl)
        try simp only [Act.put, List.getElem_toArray, List.getElem_cons_succ, List.getElem_cons_zero, List.setIfInBounds_toArray, List.set_cons_zero, List.set_cons_succ]
        refine wpAnyH_take (i := 3) (oi := _) (v := ?vr1_1_3) rfl (by kernel_rfl) (by kernel_rfl) (by kernel_rfl) ?hqr1_1_3 (Or.inl ⟨by kernel_rfl, ?hyr1_1_3⟩) (by assumption) ?restr1_1_3
        case hqr1_1_3 => exact fun _ _ _ h => h
        case hyr1_1_3 => (intro w hSw; (try dsimp only at hSw); go_simp; try with_reducible rfl)
        try simp only [Act.put, List.getElem_toArray, List.getElem_cons_succ, List.getElem_cons_zero, List.setIfInBounds_toArray, List.set_cons_zero, List.set_cons_succ]
        refine wpAnyH_take (i := 4) (oi := _) (v := ?vr1_1_4) rfl (by kernel_rfl) (by kernel_rfl) (by kernel_rfl) ?hqr1_1_4 (Or.inl ⟨by kernel_rfl, ?hyr1_1_4⟩) (by assumption) ?restr1_1_4
        case hqr1_1_4 => exact fun _ _ _ h => h
        case hyr1_1_4 => (intro w hSw; (try dsimp only at hSw); go_simp; try with_reducible rfl)
        try simp only [Act.put, List.getElem_toArray, List.getElem_cons_succ, List.getElem_cons_zero, List.setIfInBounds_toArray, List.set_cons_zero, List.set_cons_succ]
        refine wpAnyH_take (i := 5) (oi := _) (v := ?vr1_1_5) rfl (by kernel_rfl) (by kernel_rfl) (by kernel_rfl) ?hqr1_1_5 (Or.inl ⟨by kernel_rfl, ?hyr1_1_5⟩) (by assumption) ?restr1_1_5
        case hqr1_1_5 => exact fun _ _ _ h => h
        case hyr1_1_5 => (intro w hSw; (try dsimp only at hSw); go_simp; try with_reducible rfl)
        try simp only [Act.put, List.getElem_toArray, List.getElem_cons_succ, List.getElem_cons_zero, List.setIfInBounds_toArray, List.set_cons_zero, List.set_cons_succ]
        refine wpAnyH_ready (rs := [6]) (by kernel_rfl) (by simp) ?_
        refine AllReadyH.cons (o := _) rfl (fun K hK => ?_) AllReadyH.nil
        go_simp
        (go_at_call 55; refine (HF.out _).mono ?_; rintro e w7 ⟨v, rfl, hv, hb7⟩)
        try (go_wp2_with fail)
        refine hK.out _ _ ?_ (fun hHr1_1 => ?_)
        · (try dsimp only); (first | assumption | exact HS.out _ (Bel.refl _).drew | exact HS.out _ (Bel.then_ (Bel.refl _).drew hb7))
        clear hK K hHr1_0
        try simp only [Act.put, List.getElem_toArray, List.getElem_cons_succ, List.getElem_cons_zero, List.setIfInBounds_toArray, List.set_cons_zero, List.set_cons_succ]
        refine wpAnyH_take (i := 7) (oi := _) (v := ?vr1_1_7) rfl (by kernel_rfl) (by kernel_rfl) (by kernel_rfl) ?hqr1_1_7 (Or.inl ⟨by kernel_rfl, ?hyr1_1_7⟩) (by assumption) ?restr1_1_7
        case hqr1_1_7 => exact fun _ _ _ h => h
        case hyr1_1_7 => (intro w hSw; (try dsimp only at hSw); go_simp; try with_reducible rfl)
        try simp only [Act.put, List.getElem_toArray, List.getElem_cons_succ, List.getElem_cons_zero, List.setIfInBounds_toArray, List.set_cons_zero, List.set_cons_succ]
        refine wpAnyH_done (by kernel_rfl) ?_ _
        refine NoPanic.normal ?_
        have HB7 := Lib.hid ((HB6.out.drew).then_ hb7)
        have HV := Lib.hid hv
        clear hb7 hHr1_1 p0 p1 p2 p3
        rcases hv with ⟨h0, rfl⟩ | ⟨h0, p, rfl, hfp⟩
        · have ht := Lib.hid (HNX.out h0)
          go_wp2
          go_roundw
          case rel => exact ⟨k + 1, HLT.out, by go_num, HB7.out, ht.out⟩
          case measure => have := HLT.out; simp [intOf]; omega
        · have hf := HNO.out h0
          have hkb : (fi == 0) = false := by rw [beq_eq_false_iff_ne]; exact h0
          have HIS := Lib.hid (is_fault p fi 0 w7 hfp)
          rw [hkb] at HIS
          clear hfp
          have hq := fun (u : Value) (W : World) => (show (binOp .neq 91 (.iface 149 (.pointer (some ⟨p, 0, none⟩))) .nilIface).run Tryz.prog W = .ok (.bool true) W by kernel_rfl)
          go_wp2_with (go_at_call 93; refine HIS.out.mono ?_; rintro e w' ⟨rfl, rfl⟩)
          go_ret
          exact ⟨_, rfl, .inl (by rw [hf]; exact HV.out), (((Bel.refl w).alloc _).then_ HB7.out)⟩
      · obtain rfl : k = l.length := by omega
        have ht : R = 0 := by rw [HRV.out]; exact firstNZ_none _ _ _ (fun j _ h => HT.out j (by omega))
        clear HT hlt hk
        go_wp2
        go_ret
        exact ⟨_, rfl, .inl (.inl ⟨ht, rfl⟩), ((Bel.refl w).alloc _).then_ HB.out⟩
  · have hle : ((l.length : Int) != cols.length) = true := by rw [bne_iff_ne]; omega
    have hR2 : R = 130 := by rw [HR.out]; unfold rowI; rw [if_pos hlen]
    go_enter Tryz.func53, Tryz.ntmps53
    go_wp2
    go_ret
    exact ⟨_, rfl, .inr (by rw [hR2]; rfl), by (repeat (first | exact Below.refl _ _ | assumption | exact Bel.refl _ | refine Bel.alloc ?_ _ | refine Bel.drew ?_ | refine Bel.drewN ?_ _ | refine Bel.then_ ?_ (by assumption) | refine Bel.setCell ?_ (by first | (simp; done) | (simp; omega)) _))⟩
end Go.Proofs.YtkklmflclmgjeaaGreatDoor

/-
  Schema: rows, by the code and by the document.
-/
set_option linter.unusedVariables false
set_option linter.unusedSimpArgs false
set_option linter.unusedVariables false
set_option linter.unusedSimpArgs false
namespace Go.Proofs.YtkklmflclmgjeaaGreatDoor
open Go.RowKit Go.Shelf Go.Lib
attribute [local go_sem] Oper.semAt_some

def rowAll (cols : List Col) (key : List Int) (uq : List (List Int)) (l : List Val) : Int := if rightS cols key uq = true then rowI cols l else 2
set_option maxRecDepth 100000 in
theorem scRow_any (vc vk vu vl : Value) (cols : List Col) (key : List Int) (uq : List (List Int)) (l : List Val) (w : World) (hg : ErrType w) (hc : ColsAt w vc cols) (hk : IntsAt w vk key) (hu : ListsAt w vu uq) (hl : ValsAt w vl l) (hw : ∀ x ∈ l, x.Wf) :
    Calls Tryz.prog 18 #[.agg #[vc, vk, vu], vl] w fun e w' => e = .returned (.int .i64 (rowAll cols key uq l)) ∧ Bel w w' := by
  obtain ⟨R, hR⟩ : ∃ R, R = rowAll cols key uq l := ⟨_, rfl⟩
  rw [← hR]
  have HR := Lib.hid hR
  clear hR
  have HCK := Lib.hid (fun V (hb : Bel w V) => scCheck_any vc vk vu cols key uq V (hc.bel hb) (hk.bel hb) (hu.bel hb))
  have HRW := Lib.hid (fun V (hb : Bel w V) => scrow_any vc vk vu vl cols l V (hc.bel hb) (hl.bel hb) hw)
  have HG := Lib.hid hg
  clear hg hc hk hu hl hw
  cases hr : rightS cols key uq with
  | false =>
    have hf : R = 2 := by rw [HR.out]; unfold rowAll; rw [hr]; rfl
    rw [hr] at HCK
    clear hr
    go_enter Tryz.func18, Tryz.ntmps18
    go_wp2_with (go_at_call 25; refine (HCK.out _ ((Bel.refl w).alloc _)).mono ?_; rintro e w4 ⟨rfl, hb4⟩)
    go_ret
    exact ⟨by rw [hf]; rfl, ((Bel.refl w).alloc _).then_ hb4⟩
  | true =>
    have hf : R = rowI cols l := by rw [HR.out]; unfold rowAll; rw [hr]; rfl
    rw [hr] at HCK
    clear hr HR
    generalize rowI cols l = rr at *
    go_enter Tryz.func18, Tryz.ntmps18
    go_wp2_with (first | (go_at_call 25; refine (HCK.out _ ((Bel.refl w).alloc _)).mono ?_; rintro e w4 ⟨rfl, hb4⟩; have hB4 : Bel w w4 := ((Bel.refl w).alloc _).then_ hb4; have hl0 : w4.cell? ⟨w.heap.size, 0, none⟩ = some vc := hb4.c (by go_simp); have hl1 : w4.cell? ⟨w.heap.size, 1, none⟩ = some vk := hb4.c (by go_simp); have hl2 : w4.cell? ⟨w.heap.size, 2, none⟩ = some vu := hb4.c (by go_simp)) | (go_at_call 53; refine (HRW.out _ hB4).mono ?_; rintro e w5 ⟨v, rfl, hv, hb5⟩; have HN := Lib.hid (rnumber_any (HG.out.bel (hB4.then_ hb5)) hv)) | (go_at_call 52; refine HN.out.mono ?_; rintro e w6 ⟨rfl, hb6⟩))
    go_ret
    exact ⟨by rw [hf]; rfl, (hB4.then_ hb5).then_ hb6⟩
end Go.Proofs.YtkklmflclmgjeaaGreatDoor

/-
  Values picked out of a row, by the code and by the document.
-/
set_option linter.unusedVariables false
set_option linter.unusedSimpArgs false
set_option linter.unusedVariables false
set_option linter.unusedSimpArgs false
namespace Go.Proofs.YtkklmflclmgjeaaGreatDoor
open Go.RowKit Go.Shelf Go.Lib
attribute [local go_sem] Oper.semAt_some

theorem ownsRow_bel {w w' : World} {base : Nat} {e : TypeId} {size : Nat} {v : Value} {n : Nat} {xs : List Value} (h : w.ownsRow base e size v n xs) (hb : Bel w w') : w'.ownsRow base e size v n xs := by
  refine ⟨h.1, ?_⟩
  rcases h.2 with h2 | ⟨g, cap, cur, hv, hg, hh, r⟩
  · exact .inl h2
  · exact .inr ⟨g, cap, cur, hv, hg, (hb.block g (Array.getElem?_eq_some_iff.1 hh).1).trans hh, r⟩
theorem row_any {w : World} {b e z n : Nat} {v : Value} {xs : List Value} (h : w.ownsRow b e z v n xs) : ∃ A c, v = .slice A n c := by
  rcases h.2 with ⟨rfl, rfl⟩ | ⟨g, cap, cur, rfl, _⟩
  · exact ⟨none, 0, rfl⟩
  · exact ⟨_, cap, rfl⟩
def vrow (x : Val) : List Value := [.int .i64 x.k, .int .i64 x.n, .int .u64 x.u, .string x.b]
def vrows (l : List Val) : List Value := l.flatMap vrow
theorem vrows_append (l k : List Val) : vrows (l ++ k) = vrows l ++ vrows k := by simp [vrows]
theorem vrows_at : ∀ (l : List Val) (k j : Nat) (x : Val), l[k]? = some x → j < 4 → (vrows l)[k * 4 + j]? = (vrow x)[j]?
  | [], k, j, x, h, _ => by simp at h
  | y :: l, 0, j, x, h, hj => by
    simp at h
    subst h
    show (vrow y ++ vrows l)[0 * 4 + j]? = _
    rw [List.getElem?_append_left (by simp [vrow]; omega)]
    simp
  | y :: l, k + 1, j, x, h, hj => by
    show (vrow y ++ vrows l)[(k + 1) * 4 + j]? = _
    have e : (vrow y).length = 4 := rfl
    rw [List.getElem?_append_right (by omega), e, show (k + 1) * 4 + j - 4 = k * 4 + j by omega]
    exact vrows_at l k j x (by simpa using h) hj
theorem ValsAt.of_own {w : World} {b n : Nat} {v : Value} {l : List Val} (h : w.ownsRow b 48 4 v n (vrows l)) (hn : n = l.length) : ValsAt w v l := by
  subst hn
  rcases h.2 with ⟨rfl, hl⟩ | ⟨g, cap, cur, rfl, hbg, hg, h2, h3, h4, h5⟩
  · exact ⟨none, 0, by rw [hl], by omega, by unfold maxLen; omega, fun h0 => by omega⟩
  · refine ⟨_, cap, rfl, h2, by omega, fun h0 => ⟨g, 0, rfl, fun i x hx => ?_⟩⟩
    have hc : ∀ j u, (vrows l)[j]? = some u → w.cell? ⟨g, 0 + j, none⟩ = some u := fun j u hu => by
      have := h.cells (g := g) rfl j u hu
      rw [Addr.add_lit] at this
      exact this
    refine ⟨?_, ?_, ?_, ?_⟩
    · have := hc (i * 4) _ ((vrows_at l i 0 x hx (by omega)).trans rfl); exact this
    · have := hc (i * 4 + 1) _ ((vrows_at l i 1 x hx (by omega)).trans rfl); rw [← Nat.add_assoc] at this; exact this
    · have := hc (i * 4 + 2) _ ((vrows_at l i 2 x hx (by omega)).trans rfl); rw [← Nat.add_assoc] at this; exact this
    · have := hc (i * 4 + 3) _ ((vrows_at l i 3 x hx (by omega)).trans rfl); rw [← Nat.add_assoc] at this; exact this
theorem infoV : (Tryz.prog.info? 48).map (fun i => (i.zero, i.size, i.bytes)) = some (some (.agg #[.int .i64 0, .int .i64 0, .int .u64 0, .string ⟨#[]⟩]), 4, 40) := by kernel_rfl
def getV (row : List Val) (i : Int) : Option Val := if 0 ≤ i then row[i.toNat]? else none
def pickL (row : List Val) : List Int → Option (List Val)
  | [] => some []
  | i :: at_ => match getV row i, pickL row at_ with
    | some x, some l => some (x :: l)
    | _, _ => none
theorem pickL_cons (row : List Val) (i : Int) (a : List Int) : pickL row (i :: a) = match getV row i, pickL row a with
    | some x, some l => some (x :: l)
    | _, _ => none := rfl
theorem pickL_append (row : List Val) (b : List Int) : ∀ a : List Int, pickL row (a ++ b) = (pickL row a).bind fun l => (pickL row b).map (l ++ ·)
  | [] => by simp [pickL]
  | i :: a => by
    rw [List.cons_append, pickL_cons, pickL_cons, pickL_append row b a]
    cases getV row i <;> cases pickL row a <;> cases pickL row b <;> rfl
theorem pickL_one (row : List Val) (i : Int) : pickL row [i] = (getV row i).map fun x => [x] := by
  rw [pickL_cons]
  cases getV row i <;> rfl
def pickR (row : List Val) (at_ : List Int) : List Val × Int := match pickL row at_ with
  | some l => (l, 0)
  | none => ([], 4)
theorem reads4 (w : World) (T : TypeId) (c0 c1 c2 c3 : Value) : Reads (w.alloc (.cells #[c0, c1, c2, c3] T)) (w.heap.size + 1) 4 (some ⟨w.heap.size, 0, none⟩) 1 [c0, c1, c2, c3] := by
  refine ⟨rfl, fun _ => ⟨_, rfl, by simp, fun j u hu => ?_⟩⟩
  rw [Addr.add_lit]
  have hj := (List.getElem?_eq_some_iff.1 hu).1
  simp at hj
  have hc : j = 0 ∨ j = 1 ∨ j = 2 ∨ j = 3 := by omega
  rcases hc with rfl | rfl | rfl | rfl <;> (simp at hu; subst hu; simp)
set_option maxRecDepth 100000 in
set_option maxHeartbeats 4000000 in
theorem scPick_any (vr va : Value) (row : List Val) (at_ : List Int) (w : World) (hr : ValsAt w vr row) (ha : IntsAt w va at_) (hmany : at_.length ≤ 1000) :
    Calls Tryz.prog 20 #[vr, va] w fun e w' => ∃ v, e = .returned (.tuple #[v, .int .i64 (pickR row at_).2]) ∧ ValsAt w' v (pickR row at_).1 ∧ Bel w w' := by
  obtain ⟨R, hR⟩ : ∃ R, R = pickR row at_ := ⟨_, rfl⟩
  rw [← hR]
  have HR := Lib.hid hR
  clear hR
  obtain ⟨Ar, cr, rfl, hcr, hmr, hrr⟩ := hr
  obtain ⟨Aa, ca, rfl, hca, hma, hra⟩ := ha
  have hrI : (row.length : Int) ≤ 9223372036854775807 := by unfold maxLen at hmr; omega
  have haI : (at_.length : Int) ≤ 9223372036854775807 := by unfold maxLen at hma; omega
  have HRR := Lib.hid hrr
  have HRA := Lib.hid hra
  clear hrr hra hmr hma hcr hca
  obtain ⟨i0, hi0, hz0, hz1, hz2⟩ := info_parts infoV
  have hp2 : (0 : Nat) < 4 := by omega
  go_enter Tryz.func20, Tryz.ntmps20
  go_wp2
  go_loopw [6, 11] (fun v i wr => ∃ (k : Nat) (L : List Val), k ≤ at_.length ∧ i = .int .i64 k ∧ (∃ A c, v = .slice A k c) ∧ Hid (pickL row (at_.take k) = some L ∧ L.length = k) ∧ Hid (Bel w wr ∧ wr.ownsRow w.heap.size 48 4 v k (vrows L))) (fun v i _ => at_.length - (intOf i).toNat)
  case atStart => exact ⟨0, [], Nat.zero_le _, rfl, ⟨none, 0, rfl⟩, ⟨rfl, rfl⟩, Bel.refl w, World.ownsRow_nil _ _ _ _⟩
  case round =>
    obtain ⟨k, L, hk, rfl, ⟨A, c, rfl⟩, HL, HO⟩ := hrel
    by_cases hlt : k < at_.length
    · obtain ⟨i, hi⟩ : ∃ i, at_[k]? = some i := ⟨_, List.getElem?_eq_getElem hlt⟩
      obtain ⟨ba, oa, rfl, hai⟩ := HRA.out (by omega)
      have hca := HO.out.1.c (hai k i hi)
      have hkI : (k : Int) < at_.length := by omega
      have htk : at_.take (k + 1) = at_.take k ++ [i] := by rw [List.take_add_one, hi]; rfl
      have HTK : Hid (pickL row (at_.take (k + 1)) = (getV row i).map fun x => L ++ [x]) := by
        show _ = _
        rw [htk, pickL_append, HL.out.1, pickL_one]
        cases getV row i <;> rfl
      have HBAD : Hid (getV row i = none → R = ([], 4)) := fun e => by
        rw [HR.out]
        unfold pickR
        have h1 : pickL row at_ = none := by
          have h2 : pickL row (at_.take (k + 1) ++ at_.drop (k + 1)) = none := by rw [pickL_append, HTK.out, e]; rfl
          rwa [List.take_append_drop] at h2
        rw [h1]
      clear hi hai htk
      by_cases hx0 : i < 0
      · have hf := HBAD.out (by unfold getV; rw [if_neg (by omega)])
        go_wp2
        go_ret2
        exact ⟨_, by first | rfl | (rw [hf]; rfl), by first | exact ⟨none, 0, rfl, Nat.le_refl _, Nat.zero_le _, fun h => by simp at h⟩ | (rw [hf]; exact ⟨none, 0, rfl, Nat.le_refl _, Nat.zero_le _, fun h => by simp at h⟩), HO.out.1⟩
      · have hx0b : decide (i < 0) = false := by simp; omega
        obtain ⟨n, rfl⟩ := Int.eq_ofNat_of_zero_le (Int.not_lt.1 hx0)
        by_cases hn : n < row.length
        · obtain ⟨x, hx⟩ : ∃ x, row[n]? = some x := ⟨_, List.getElem?_eq_getElem hn⟩
          obtain ⟨br, or_, rfl, hri⟩ := HRR.out (by omega)
          obtain ⟨q0, q1, q2, q3⟩ := hri n x hx
          have p0 := HO.out.1.c q0
          have p1 := HO.out.1.c q1
          have p2 := HO.out.1.c q2
          have p3 := HO.out.1.c q3
          have hnI : (n : Int) < row.length := by omega
          have hnb : decide ((row.length : Int) ≤ n) = false := by simp; omega
          have HNX : Hid (pickL row (at_.take (k + 1)) = some (L ++ [x]) ∧ (L ++ [x]).length = k + 1) := by
            refine ⟨?_, by rw [List.length_append, HL.out.2]; rfl⟩
            rw [HTK.out]
            have : getV row (n : Int) = some x := by unfold getV; rw [if_pos (by omega)]; simpa using hx
            rw [this]; rfl
          have hal : Bel wr (wr.alloc (.cells #[.int .i64 x.k, .int .i64 x.n, .int .u64 x.u, .string x.b] 48)) := (Bel.refl wr).alloc _
          have HOW := Lib.hid (ownsRow_bel HO.out.2 hal)
          have HAL := Lib.hid (HO.out.1.then_ hal)
          have HX1 : Hid (Reads (wr.alloc (.cells #[.int .i64 x.k, .int .i64 x.n, .int .u64 x.u, .string x.b] 48)) (wr.heap.size + 1) 4 (some ⟨wr.heap.size, 0, none⟩) 1 (vrow x)) := reads4 wr _ _ _ _ _
          have HS1 : Hid (w.heap.size ≤ (wr.alloc (.cells #[.int .i64 x.k, .int .i64 x.n, .int .u64 x.u, .string x.b] 48)).heap.size) := (HO.out.1.then_ hal).size
          have hon : ∀ u ∈ vrow x, u.oneCell' = true := fun u hu => by
            simp [vrow] at hu
            rcases hu with rfl | rfl | rfl | rfl <;> rfl
          have h63 : k + 1 ≤ maxLen := by unfold maxLen; omega
          have hby : (k + 1) * 40 ≤ 140737488355328 := by omega
          clear hx hri q0 q1 q2 q3 hal HTK HBAD
          go_wp2_with (at_builtin; refine wpList_append_any _ rfl _ _ _ rfl w.heap.size 48 i0 _ 4 40 Tryz.underlying27 hi0 hz0 hz1 hz2 rfl hp2 _ k (vrows L) rfl HOW.out _ (some ⟨wr.heap.size, 0, none⟩) 1 1 (vrow x) rfl HX1.out hon h63 hby HS1.out ?_; intro v9 w9 hown9 hg9 hat9; obtain ⟨A9, c9, rfl⟩ := row_any hown9; have hb9 : Bel w w9 := Below.grown HAL.out hg9 HS1.out (fun j e => (HOW.out.lt j e).1); have HN : Hid (Bel w w9 ∧ w9.ownsRow w.heap.size 48 4 (.slice A9 (k + 1) c9) (k + 1) (vrows (L ++ [x]))) := ⟨hb9, by rw [vrows_append]; simpa [vrows] using hown9⟩; clear hown9 hg9 hat9 hb9)
          go_roundw
          case rel => exact ⟨k + 1, L ++ [x], by omega, by go_num, ⟨A9, c9, rfl⟩, HNX.out, HN.out⟩
          case measure => simp [intOf]; omega
        · have hf := HBAD.out (by unfold getV; rw [if_pos (by omega)]; simp; omega)
          have hnb : (row.length : Int) ≤ n := by omega
          go_wp2
          go_ret2
          exact ⟨_, by first | rfl | (rw [hf]; rfl), by first | exact ⟨none, 0, rfl, Nat.le_refl _, Nat.zero_le _, fun h => by simp at h⟩ | (rw [hf]; exact ⟨none, 0, rfl, Nat.le_refl _, Nat.zero_le _, fun h => by simp at h⟩), HO.out.1⟩
    · obtain rfl : k = at_.length := by omega
      have ht : R = (L, 0) := by
        have := HL.out.1
        rw [List.take_length] at this
        rw [HR.out]; unfold pickR; rw [this]
      have HV := Lib.hid (ValsAt.of_own HO.out.2 HL.out.2.symm)
      clear hlt hk
      go_wp2
      go_ret2
      exact ⟨_, by first | rfl | (rw [ht]; rfl), by first | exact HV.out | (rw [ht]; exact HV.out), HO.out.1⟩
set_option maxRecDepth 100000 in
set_option maxHeartbeats 4000000 in
theorem tPick_any (vr va : Value) (row : List Val) (at_ : List Int) (w : World) (hr : ValsAt w vr row) (ha : IntsAt w va at_) (hmany : at_.length ≤ 1000) :
    Calls Tryz.prog 21 #[vr, va] w fun e w' => ∃ v, e = .returned (.tuple #[v, .int .i64 (pickR row at_).2]) ∧ ValsAt w' v (pickR row at_).1 ∧ Bel w w' := by
  obtain ⟨R, hR⟩ : ∃ R, R = pickR row at_ := ⟨_, rfl⟩
  rw [← hR]
  have HR := Lib.hid hR
  clear hR
  obtain ⟨Ar, cr, rfl, hcr, hmr, hrr⟩ := hr
  obtain ⟨Aa, ca, rfl, hca, hma, hra⟩ := ha
  have hrI : (row.length : Int) ≤ 9223372036854775807 := by unfold maxLen at hmr; omega
  have haI : (at_.length : Int) ≤ 9223372036854775807 := by unfold maxLen at hma; omega
  have HRR := Lib.hid hrr
  have HRA := Lib.hid hra
  clear hrr hra hmr hma hcr hca
  obtain ⟨i0, hi0, hz0, hz1, hz2⟩ := info_parts infoV
  have hp2 : (0 : Nat) < 4 := by omega
  go_enter Tryz.func21, Tryz.ntmps21
  go_wp2
  go_loopw [6, 7] (fun v i wr => ∃ (k : Nat) (L : List Val), k ≤ at_.length ∧ i = .int .i64 k ∧ (∃ A c, v = .slice A k c) ∧ Hid (pickL row (at_.take k) = some L ∧ L.length = k) ∧ Hid (Bel w wr ∧ wr.ownsRow w.heap.size 48 4 v k (vrows L))) (fun v i _ => at_.length - (intOf i).toNat)
  case atStart => exact ⟨0, [], Nat.zero_le _, rfl, ⟨none, 0, rfl⟩, ⟨rfl, rfl⟩, Bel.refl w, World.ownsRow_nil _ _ _ _⟩
  case round =>
    obtain ⟨k, L, hk, rfl, ⟨A, c, rfl⟩, HL, HO⟩ := hrel
    by_cases hlt : k < at_.length
    · obtain ⟨i, hi⟩ : ∃ i, at_[k]? = some i := ⟨_, List.getElem?_eq_getElem hlt⟩
      obtain ⟨ba, oa, rfl, hai⟩ := HRA.out (by omega)
      have hca := HO.out.1.c (hai k i hi)
      have hkI : (k : Int) < at_.length := by omega
      have htk : at_.take (k + 1) = at_.take k ++ [i] := by rw [List.take_add_one, hi]; rfl
      have HTK : Hid (pickL row (at_.take (k + 1)) = (getV row i).map fun x => L ++ [x]) := by
        show _ = _
        rw [htk, pickL_append, HL.out.1, pickL_one]
        cases getV row i <;> rfl
      have HBAD : Hid (getV row i = none → R = ([], 4)) := fun e => by
        rw [HR.out]
        unfold pickR
        have h1 : pickL row at_ = none := by
          have h2 : pickL row (at_.take (k + 1) ++ at_.drop (k + 1)) = none := by rw [pickL_append, HTK.out, e]; rfl
          rwa [List.take_append_drop] at h2
        rw [h1]
      clear hi hai htk
      by_cases hx0 : i < 0
      · have hf := HBAD.out (by unfold getV; rw [if_neg (by omega)])
        go_wp2
        go_ret2
        exact ⟨_, by first | rfl | (rw [hf]; rfl), by first | exact ⟨none, 0, rfl, Nat.le_refl _, Nat.zero_le _, fun h => by simp at h⟩ | (rw [hf]; exact ⟨none, 0, rfl, Nat.le_refl _, Nat.zero_le _, fun h => by simp at h⟩), HO.out.1⟩
      · have hx0b : decide (i < 0) = false := by simp; omega
        obtain ⟨n, rfl⟩ := Int.eq_ofNat_of_zero_le (Int.not_lt.1 hx0)
        by_cases hn : n < row.length
        · obtain ⟨x, hx⟩ : ∃ x, row[n]? = some x := ⟨_, List.getElem?_eq_getElem hn⟩
          obtain ⟨br, or_, rfl, hri⟩ := HRR.out (by omega)
          obtain ⟨q0, q1, q2, q3⟩ := hri n x hx
          have p0 := HO.out.1.c q0
          have p1 := HO.out.1.c q1
          have p2 := HO.out.1.c q2
          have p3 := HO.out.1.c q3
          have hnI : (n : Int) < row.length := by omega
          have hnb : decide ((row.length : Int) ≤ n) = false := by simp; omega
          have HNX : Hid (pickL row (at_.take (k + 1)) = some (L ++ [x]) ∧ (L ++ [x]).length = k + 1) := by
            refine ⟨?_, by rw [List.length_append, HL.out.2]; rfl⟩
            rw [HTK.out]
            have : getV row (n : Int) = some x := by unfold getV; rw [if_pos (by omega)]; simpa using hx
            rw [this]; rfl
          have hal : Bel wr (wr.alloc (.cells #[.int .i64 x.k, .int .i64 x.n, .int .u64 x.u, .string x.b] 48)) := (Bel.refl wr).alloc _
          have HOW := Lib.hid (ownsRow_bel HO.out.2 hal)
          have HAL := Lib.hid (HO.out.1.then_ hal)
          have HX1 : Hid (Reads (wr.alloc (.cells #[.int .i64 x.k, .int .i64 x.n, .int .u64 x.u, .string x.b] 48)) (wr.heap.size + 1) 4 (some ⟨wr.heap.size, 0, none⟩) 1 (vrow x)) := reads4 wr _ _ _ _ _
          have HS1 : Hid (w.heap.size ≤ (wr.alloc (.cells #[.int .i64 x.k, .int .i64 x.n, .int .u64 x.u, .string x.b] 48)).heap.size) := (HO.out.1.then_ hal).size
          have hon : ∀ u ∈ vrow x, u.oneCell' = true := fun u hu => by
            simp [vrow] at hu
            rcases hu with rfl | rfl | rfl | rfl <;> rfl
          have h63 : k + 1 ≤ maxLen := by unfold maxLen; omega
          have hby : (k + 1) * 40 ≤ 140737488355328 := by omega
          clear hx hri q0 q1 q2 q3 hal HTK HBAD
          go_wp2_with (at_builtin; refine wpList_append_any _ rfl _ _ _ rfl w.heap.size 48 i0 _ 4 40 Tryz.underlying27 hi0 hz0 hz1 hz2 rfl hp2 _ k (vrows L) rfl HOW.out _ (some ⟨wr.heap.size, 0, none⟩) 1 1 (vrow x) rfl HX1.out hon h63 hby HS1.out ?_; intro v9 w9 hown9 hg9 hat9; obtain ⟨A9, c9, rfl⟩ := row_any hown9; have hb9 : Bel w w9 := Below.grown HAL.out hg9 HS1.out (fun j e => (HOW.out.lt j e).1); have HN : Hid (Bel w w9 ∧ w9.ownsRow w.heap.size 48 4 (.slice A9 (k + 1) c9) (k + 1) (vrows (L ++ [x]))) := ⟨hb9, by rw [vrows_append]; simpa [vrows] using hown9⟩; clear hown9 hg9 hat9 hb9)
          go_roundw
          case rel => exact ⟨k + 1, L ++ [x], by omega, by go_num, ⟨A9, c9, rfl⟩, HNX.out, HN.out⟩
          case measure => simp [intOf]; omega
        · have hf := HBAD.out (by unfold getV; rw [if_pos (by omega)]; simp; omega)
          have hnb : (row.length : Int) ≤ n := by omega
          go_wp2
          go_ret2
          exact ⟨_, by first | rfl | (rw [hf]; rfl), by first | exact ⟨none, 0, rfl, Nat.le_refl _, Nat.zero_le _, fun h => by simp at h⟩ | (rw [hf]; exact ⟨none, 0, rfl, Nat.le_refl _, Nat.zero_le _, fun h => by simp at h⟩), HO.out.1⟩
    · obtain rfl : k = at_.length := by omega
      have ht : R = (L, 0) := by
        have := HL.out.1
        rw [List.take_length] at this
        rw [HR.out]; unfold pickR; rw [this]
      have HV := Lib.hid (ValsAt.of_own HO.out.2 HL.out.2.symm)
      clear hlt hk
      go_wp2
      go_ret2
      exact ⟨_, by first | rfl | (rw [ht]; rfl), by first | exact HV.out | (rw [ht]; exact HV.out), HO.out.1⟩
end Go.Proofs.YtkklmflclmgjeaaGreatDoor

/-
  octet (for the codec, beside the schema's texts): how many bytes a number needs; a number's bytes; the number of bytes.
-/
set_option linter.unusedVariables false
set_option linter.unusedSimpArgs false
set_option linter.unusedVariables false
set_option linter.unusedSimpArgs false
namespace Go.Proofs.YtkklmflclmgjeaaGreatDoor
open Go.RowKit

/-- How many bits a number has. -/
def bl (n : Nat) : Nat := if n = 0 then 0 else n.log2 + 1
/-- How many bytes a number needs. -/
def needN (n : Nat) : Nat := (bl n + 7) / 8
theorem bl_zero : bl 0 = 0 := rfl
theorem bl_le_iff (n k : Nat) : bl n ≤ k ↔ n < 2 ^ k := by
  unfold bl
  by_cases h : n = 0
  · subst h; simp [Nat.pow_pos]
  · rw [if_neg h]
    rw [← Nat.log2_lt h]
    omega
theorem bl_lt_iff (n k : Nat) : k < bl n ↔ 2 ^ k ≤ n := by
  have := bl_le_iff n k
  omega
theorem bl_shift (n k : Nat) (h : 2 ^ k ≤ n) : bl n = k + bl (n / 2 ^ k) := by
  apply Nat.le_antisymm
  · rw [bl_le_iff, Nat.pow_add]
    have h1 : n / 2 ^ k < 2 ^ bl (n / 2 ^ k) := (bl_le_iff _ _).1 (Nat.le_refl _)
    rw [Nat.div_lt_iff_lt_mul (Nat.pow_pos (by decide))] at h1
    rw [Nat.mul_comm]; exact h1
  · have hp : 0 < n / 2 ^ k := Nat.div_pos h (Nat.pow_pos (by decide))
    have hb : 0 < bl (n / 2 ^ k) := by rw [bl_lt_iff]; exact hp
    obtain ⟨j, hj⟩ : ∃ j, bl (n / 2 ^ k) = j + 1 := ⟨bl (n / 2 ^ k) - 1, by omega⟩
    have h2 : 2 ^ j ≤ n / 2 ^ k := (bl_lt_iff _ _).1 (by omega)
    have h3 : k + j < bl n := by
      rw [bl_lt_iff, Nat.pow_add]
      calc 2 ^ k * 2 ^ j ≤ 2 ^ k * (n / 2 ^ k) := Nat.mul_le_mul_left _ h2
        _ ≤ n := Nat.mul_div_le _ _
    omega
theorem needN_le_iff (n k : Nat) : needN n ≤ k ↔ n < 256 ^ k := by
  have : (256 : Nat) ^ k = 2 ^ (8 * k) := by rw [Nat.pow_mul]
  rw [this, ← bl_le_iff]
  unfold needN
  omega
/-- The bytes of a number, so many, the highest first. -/
def beN (n : Nat) : Nat → List UInt8
  | 0 => []
  | k + 1 => UInt8.ofNat (n / 256 ^ k % 256) :: beN n k
theorem beN_length (n : Nat) : ∀ k, (beN n k).length = k
  | 0 => rfl
  | k + 1 => by rw [beN, List.length_cons, beN_length n k]
/-- The number of bytes. -/
def numN (s : List UInt8) : Nat := s.foldl (fun n c => n * 256 + c.toNat) 0
theorem numN_snoc (s : List UInt8) (c : UInt8) : numN (s ++ [c]) = numN s * 256 + c.toNat := by simp [numN]
theorem numN_lt (s : List UInt8) : numN s < 256 ^ s.length := by
  have : ∀ (l : List UInt8), numN l.reverse < 256 ^ l.length := by
    intro l
    induction l with
    | nil => simp [numN]
    | cons c l ih =>
      rw [List.reverse_cons, numN_snoc, List.length_cons, Nat.pow_succ]
      have := c.toNat_lt
      have h2 : (numN l.reverse + 1) * 256 ≤ 256 ^ l.length * 256 := Nat.mul_le_mul_right _ ih
      omega
  have h := this s.reverse
  simpa using h
theorem beN_num (n : Nat) : ∀ k, n < 256 ^ k → numN (beN n k) = n := by
  have key : ∀ k m, (beN n k).foldl (fun n c => n * 256 + c.toNat) m = m * 256 ^ k + n % 256 ^ k := by
    intro k
    induction k with
    | zero => intro m; simp [beN, Nat.mod_one]
    | succ k ih =>
      intro m
      rw [beN, List.foldl_cons, ih]
      have h1 : (UInt8.ofNat (n / 256 ^ k % 256)).toNat = n / 256 ^ k % 256 := by simp
      rw [h1]
      have h2 : n % 256 ^ (k + 1) = 256 ^ k * (n / 256 ^ k % 256) + n % 256 ^ k := by
        rw [Nat.pow_succ, Nat.mod_mul]
        omega
      rw [h2, Nat.pow_succ, Nat.add_mul, Nat.mul_assoc, Nat.mul_comm 256 (256 ^ k), Nat.mul_comm (n / 256 ^ k % 256)]
      omega
  intro k hk
  have := key k 0
  unfold numN
  rw [this, Nat.mod_eq_of_lt hk]
  omega
/-! Bits of numbers. -/
theorem wrap_u64 (x : Nat) (h : x < 2 ^ 64) : IntKind.u64.wrap (x : Int) = x := by
  simp only [IntKind.wrap, IntKind.bits, IntKind.signed]
  simp
  omega
theorem wrap_u32 (x : Nat) (h : x < 2 ^ 32) : IntKind.u32.wrap (x : Int) = x := by
  simp only [IntKind.wrap, IntKind.bits, IntKind.signed]
  simp
  omega
theorem bits_or_u64 (x y : Nat) (hx : x < 2 ^ 64) (hy : y < 2 ^ 64) : bits .or .u64 (x : Int) (y : Int) = ((x ||| y : Nat) : Int) := by
  unfold bits
  have e : (BitVec.ofInt 64 (x : Int) ||| BitVec.ofInt 64 (y : Int)).toNat = x ||| y := by
    simp [BitVec.toNat_or, BitVec.toNat_ofInt]
    rw [Nat.mod_eq_of_lt (show x < 18446744073709551616 from hx), Nat.mod_eq_of_lt (show y < 18446744073709551616 from hy)]
  show IntKind.u64.wrap ((BitVec.ofInt 64 (x : Int) ||| BitVec.ofInt 64 (y : Int)).toNat : Int) = _
  rw [e]
  exact wrap_u64 _ (Nat.or_lt_two_pow hx hy)
theorem bits_xor_u32 (x y : Nat) (hx : x < 2 ^ 32) (hy : y < 2 ^ 32) : bits .xor .u32 (x : Int) (y : Int) = ((x ^^^ y : Nat) : Int) := by
  unfold bits
  have e : (BitVec.ofInt 32 (x : Int) ^^^ BitVec.ofInt 32 (y : Int)).toNat = x ^^^ y := by
    simp [BitVec.toNat_xor, BitVec.toNat_ofInt]
    rw [Nat.mod_eq_of_lt (show x < 4294967296 from hx), Nat.mod_eq_of_lt (show y < 4294967296 from hy)]
  show IntKind.u32.wrap ((BitVec.ofInt 32 (x : Int) ^^^ BitVec.ofInt 32 (y : Int)).toNat : Int) = _
  rw [e]
  exact wrap_u32 _ (Nat.xor_lt_two_pow hx hy)
theorem bits_and_u32 (x y : Nat) (hx : x < 2 ^ 32) (hy : y < 2 ^ 32) : bits .and .u32 (x : Int) (y : Int) = ((x &&& y : Nat) : Int) := by
  unfold bits
  have e : (BitVec.ofInt 32 (x : Int) &&& BitVec.ofInt 32 (y : Int)).toNat = x &&& y := by
    simp [BitVec.toNat_and, BitVec.toNat_ofInt]
    rw [Nat.mod_eq_of_lt (show x < 4294967296 from hx), Nat.mod_eq_of_lt (show y < 4294967296 from hy)]
  show IntKind.u32.wrap ((BitVec.ofInt 32 (x : Int) &&& BitVec.ofInt 32 (y : Int)).toNat : Int) = _
  rw [e]
  exact wrap_u32 _ (Nat.and_lt_two_pow _ hy)
theorem or_byte (m c : Nat) (hc : c < 256) : m * 256 ||| c = m * 256 + c := by
  have := Nat.shiftLeft_add_eq_or_of_lt (i := 8) (b := c) hc m
  rw [Nat.shiftLeft_eq] at this
  exact this.symm
end Go.Proofs.YtkklmflclmgjeaaGreatDoor

/-
  math/bits.Len64: how many bits a number has.
-/
set_option linter.unusedVariables false
set_option linter.unusedSimpArgs false
namespace Go.Proofs.YtkklmflclmgjeaaGreatDoor
open Go.RowKit

set_option maxRecDepth 100000 in
set_option maxHeartbeats 2000000 in
theorem len64_000 (n : Nat) (h64 : n < 2 ^ 64) (h32 : n < 4294967296) (h16 : n < 65536) (h8 : n < 256) (w : World) : Calls Tryz.prog 156 #[.int .u64 n] w fun e w' => e = .returned (.int .i64 (0 + bl n : Nat)) ∧ w = w' := by
  have hlt : n < 256 := by omega
  have g32 : decide ((n : Int) ≥ 4294967296) = false := by simp; omega
  have g16 : decide ((n : Int) ≥ 65536) = false := by simp; omega
  have g8 : decide ((n : Int) ≥ 256) = false := by simp; omega
  clear h64 h32 h16 h8 
  go_enter Tryz.func156, Tryz.ntmps156
  go_wp2
  go_ret
  refine ⟨ret_int ?_, rfl⟩
  clear g32 g16 g8
  skip
  revert hlt
  revert n
  intro m h hlt
  revert h
  revert hlt
  revert m
  decide +kernel

set_option maxRecDepth 100000 in
set_option maxHeartbeats 2000000 in
theorem len64_001 (n : Nat) (h64 : n < 2 ^ 64) (h32 : n < 4294967296) (h16 : n < 65536) (h8 : 256 ≤ n) (m8 : Nat) (e8 : m8 = n / 256) (w : World) : Calls Tryz.prog 156 #[.int .u64 n] w fun e w' => e = .returned (.int .i64 (8 + bl m8 : Nat)) ∧ w = w' := by
  have hlt : m8 < 256 := by omega
  have g32 : decide ((n : Int) ≥ 4294967296) = false := by simp; omega
  have g16 : decide ((n : Int) ≥ 65536) = false := by simp; omega
  have g8 : decide ((n : Int) ≥ 256) = true := by simp; omega
  have d8 : (n : Int) / 256 = (m8 : Int) := by omega
  clear h64 h32 h16 h8 e8
  go_enter Tryz.func156, Tryz.ntmps156
  go_wp2
  go_ret
  refine ⟨ret_int ?_, rfl⟩
  clear g32 g16 g8
  clear d8
  revert hlt
  revert m8
  intro m h hlt
  revert h
  revert hlt
  revert m
  decide +kernel

set_option maxRecDepth 100000 in
set_option maxHeartbeats 2000000 in
theorem len64_010 (n : Nat) (h64 : n < 2 ^ 64) (h32 : n < 4294967296) (h16 : 65536 ≤ n) (m16 : Nat) (e16 : m16 = n / 65536) (h8 : m16 < 256) (w : World) : Calls Tryz.prog 156 #[.int .u64 n] w fun e w' => e = .returned (.int .i64 (16 + bl m16 : Nat)) ∧ w = w' := by
  have hlt : m16 < 256 := by omega
  have g32 : decide ((n : Int) ≥ 4294967296) = false := by simp; omega
  have g16 : decide ((n : Int) ≥ 65536) = true := by simp; omega
  have d16 : (n : Int) / 65536 = (m16 : Int) := by omega
  have g8 : decide ((m16 : Int) ≥ 256) = false := by simp; omega
  clear h64 h32 h16 h8 e16
  go_enter Tryz.func156, Tryz.ntmps156
  go_wp2
  go_ret
  refine ⟨ret_int ?_, rfl⟩
  clear g32 g16 g8
  clear d16
  revert hlt
  revert m16
  intro m h hlt
  revert h
  revert hlt
  revert m
  decide +kernel

set_option maxRecDepth 100000 in
set_option maxHeartbeats 2000000 in
theorem len64_011 (n : Nat) (h64 : n < 2 ^ 64) (h32 : n < 4294967296) (h16 : 65536 ≤ n) (m16 : Nat) (e16 : m16 = n / 65536) (h8 : 256 ≤ m16) (m8 : Nat) (e8 : m8 = m16 / 256) (w : World) : Calls Tryz.prog 156 #[.int .u64 n] w fun e w' => e = .returned (.int .i64 (24 + bl m8 : Nat)) ∧ w = w' := by
  have hlt : m8 < 256 := by omega
  have g32 : decide ((n : Int) ≥ 4294967296) = false := by simp; omega
  have g16 : decide ((n : Int) ≥ 65536) = true := by simp; omega
  have d16 : (n : Int) / 65536 = (m16 : Int) := by omega
  have g8 : decide ((m16 : Int) ≥ 256) = true := by simp; omega
  have d8 : (m16 : Int) / 256 = (m8 : Int) := by omega
  clear h64 h32 h16 h8 e16 e8
  go_enter Tryz.func156, Tryz.ntmps156
  go_wp2
  go_ret
  refine ⟨ret_int ?_, rfl⟩
  clear g32 g16 g8
  clear d16 d8
  revert hlt
  revert m8
  intro m h hlt
  revert h
  revert hlt
  revert m
  decide +kernel

set_option maxRecDepth 100000 in
set_option maxHeartbeats 2000000 in
theorem len64_100 (n : Nat) (h64 : n < 2 ^ 64) (h32 : 4294967296 ≤ n) (m32 : Nat) (e32 : m32 = n / 4294967296) (h16 : m32 < 65536) (h8 : m32 < 256) (w : World) : Calls Tryz.prog 156 #[.int .u64 n] w fun e w' => e = .returned (.int .i64 (32 + bl m32 : Nat)) ∧ w = w' := by
  have hlt : m32 < 256 := by omega
  have g32 : decide ((n : Int) ≥ 4294967296) = true := by simp; omega
  have d32 : (n : Int) / 4294967296 = (m32 : Int) := by omega
  have g16 : decide ((m32 : Int) ≥ 65536) = false := by simp; omega
  have g8 : decide ((m32 : Int) ≥ 256) = false := by simp; omega
  clear h64 h32 h16 h8 e32
  go_enter Tryz.func156, Tryz.ntmps156
  go_wp2
  go_ret
  refine ⟨ret_int ?_, rfl⟩
  clear g32 g16 g8
  clear d32
  revert hlt
  revert m32
  intro m h hlt
  revert h
  revert hlt
  revert m
  decide +kernel

set_option maxRecDepth 100000 in
set_option maxHeartbeats 2000000 in
theorem len64_101 (n : Nat) (h64 : n < 2 ^ 64) (h32 : 4294967296 ≤ n) (m32 : Nat) (e32 : m32 = n / 4294967296) (h16 : m32 < 65536) (h8 : 256 ≤ m32) (m8 : Nat) (e8 : m8 = m32 / 256) (w : World) : Calls Tryz.prog 156 #[.int .u64 n] w fun e w' => e = .returned (.int .i64 (40 + bl m8 : Nat)) ∧ w = w' := by
  have hlt : m8 < 256 := by omega
  have g32 : decide ((n : Int) ≥ 4294967296) = true := by simp; omega
  have d32 : (n : Int) / 4294967296 = (m32 : Int) := by omega
  have g16 : decide ((m32 : Int) ≥ 65536) = false := by simp; omega
  have g8 : decide ((m32 : Int) ≥ 256) = true := by simp; omega
  have d8 : (m32 : Int) / 256 = (m8 : Int) := by omega
  clear h64 h32 h16 h8 e32 e8
  go_enter Tryz.func156, Tryz.ntmps156
  go_wp2
  go_ret
  refine ⟨ret_int ?_, rfl⟩
  clear g32 g16 g8
  clear d32 d8
  revert hlt
  revert m8
  intro m h hlt
  revert h
  revert hlt
  revert m
  decide +kernel

set_option maxRecDepth 100000 in
set_option maxHeartbeats 2000000 in
theorem len64_110 (n : Nat) (h64 : n < 2 ^ 64) (h32 : 4294967296 ≤ n) (m32 : Nat) (e32 : m32 = n / 4294967296) (h16 : 65536 ≤ m32) (m16 : Nat) (e16 : m16 = m32 / 65536) (h8 : m16 < 256) (w : World) : Calls Tryz.prog 156 #[.int .u64 n] w fun e w' => e = .returned (.int .i64 (48 + bl m16 : Nat)) ∧ w = w' := by
  have hlt : m16 < 256 := by omega
  have g32 : decide ((n : Int) ≥ 4294967296) = true := by simp; omega
  have d32 : (n : Int) / 4294967296 = (m32 : Int) := by omega
  have g16 : decide ((m32 : Int) ≥ 65536) = true := by simp; omega
  have d16 : (m32 : Int) / 65536 = (m16 : Int) := by omega
  have g8 : decide ((m16 : Int) ≥ 256) = false := by simp; omega
  clear h64 h32 h16 h8 e32 e16
  go_enter Tryz.func156, Tryz.ntmps156
  go_wp2
  go_ret
  refine ⟨ret_int ?_, rfl⟩
  clear g32 g16 g8
  clear d32 d16
  revert hlt
  revert m16
  intro m h hlt
  revert h
  revert hlt
  revert m
  decide +kernel

set_option maxRecDepth 100000 in
set_option maxHeartbeats 2000000 in
theorem len64_111 (n : Nat) (h64 : n < 2 ^ 64) (h32 : 4294967296 ≤ n) (m32 : Nat) (e32 : m32 = n / 4294967296) (h16 : 65536 ≤ m32) (m16 : Nat) (e16 : m16 = m32 / 65536) (h8 : 256 ≤ m16) (m8 : Nat) (e8 : m8 = m16 / 256) (w : World) : Calls Tryz.prog 156 #[.int .u64 n] w fun e w' => e = .returned (.int .i64 (56 + bl m8 : Nat)) ∧ w = w' := by
  have hlt : m8 < 256 := by omega
  have g32 : decide ((n : Int) ≥ 4294967296) = true := by simp; omega
  have d32 : (n : Int) / 4294967296 = (m32 : Int) := by omega
  have g16 : decide ((m32 : Int) ≥ 65536) = true := by simp; omega
  have d16 : (m32 : Int) / 65536 = (m16 : Int) := by omega
  have g8 : decide ((m16 : Int) ≥ 256) = true := by simp; omega
  have d8 : (m16 : Int) / 256 = (m8 : Int) := by omega
  clear h64 h32 h16 h8 e32 e16 e8
  go_enter Tryz.func156, Tryz.ntmps156
  go_wp2
  go_ret
  refine ⟨ret_int ?_, rfl⟩
  clear g32 g16 g8
  clear d32 d16 d8
  revert hlt
  revert m8
  intro m h hlt
  revert h
  revert hlt
  revert m
  decide +kernel

theorem len64_any (n : Nat) (h64 : n < 2 ^ 64) (w : World) : Calls Tryz.prog 156 #[.int .u64 n] w fun e w' => e = .returned (.int .i64 (bl n)) ∧ w = w' := by
  by_cases a : 4294967296 ≤ n
  · rw [bl_shift n 32 a]
    by_cases b : 65536 ≤ n / 4294967296
    · rw [bl_shift (n / 2 ^ 32) 16 b]
      by_cases c : 256 ≤ n / 4294967296 / 65536
      · rw [bl_shift (n / 2 ^ 32 / 2 ^ 16) 8 c]
        have := len64_111 n h64 a _ rfl b _ rfl c _ rfl w
        rwa [show 56 + bl (n / 4294967296 / 65536 / 256) = 32 + (16 + (8 + bl (n / 2 ^ 32 / 2 ^ 16 / 2 ^ 8))) by simp only [← Nat.add_assoc]; try rfl] at this
      · have := len64_110 n h64 a _ rfl b _ rfl (by omega) w
        rwa [show 48 + bl (n / 4294967296 / 65536) = 32 + (16 + bl (n / 2 ^ 32 / 2 ^ 16)) by simp only [← Nat.add_assoc]; try rfl] at this
    · by_cases c : 256 ≤ n / 4294967296
      · rw [bl_shift (n / 2 ^ 32) 8 c]
        have := len64_101 n h64 a _ rfl (by omega) c _ rfl w
        rwa [show 40 + bl (n / 4294967296 / 256) = 32 + (8 + bl (n / 2 ^ 32 / 2 ^ 8)) by simp only [← Nat.add_assoc]; try rfl] at this
      · exact len64_100 n h64 a _ rfl (by omega) (by omega) w
  · by_cases b : 65536 ≤ n
    · rw [bl_shift n 16 b]
      by_cases c : 256 ≤ n / 65536
      · rw [bl_shift (n / 2 ^ 16) 8 c]
        have := len64_011 n h64 (by omega) b _ rfl c _ rfl w
        rwa [show 24 + bl (n / 65536 / 256) = 16 + (8 + bl (n / 2 ^ 16 / 2 ^ 8)) by simp only [← Nat.add_assoc]; try rfl] at this
      · exact len64_010 n h64 (by omega) b _ rfl (by omega) w
    · by_cases c : 256 ≤ n
      · rw [bl_shift n 8 c]
        exact len64_001 n h64 (by omega) (by omega) c _ rfl w
      · have := len64_000 n h64 (by omega) (by omega) (by omega) w
        rwa [Nat.zero_add] at this
theorem need_any (n : Nat) (h64 : n < 2 ^ 64) (w : World) : Calls Tryz.prog 127 #[.int .u64 n] w fun e w' => e = .returned (.int .i64 (needN n)) ∧ w = w' := by
  have HL := Lib.hid (len64_any n h64 w)
  have hb : bl n ≤ 64 := (bl_le_iff n 64).2 h64
  clear h64
  go_enter Tryz.func127, Tryz.ntmps127
  go_wp2_with (go_at_call 156; refine HL.out.mono ?_; rintro e w' ⟨rfl, rfl⟩)
  go_ret
  refine ⟨ret_int ?_, rfl⟩
  unfold needN
  omega

end Go.Proofs.YtkklmflclmgjeaaGreatDoor

/-
  octet: walks.
-/
set_option linter.unusedVariables false
set_option linter.unusedSimpArgs false
namespace Go.Proofs.YtkklmflclmgjeaaGreatDoor
open Go.RowKit

theorem ofC_any (n : Nat) (i : Nat) (hi : i < 8) (b : Nat) (w : World) (hc : w.cell? ⟨b, 0, none⟩ = some (.int .u64 n)) : Calls Tryz.prog 157 #[.int .i64 i, .pointer (some ⟨b, 0, none⟩)] w fun e w' => e = .returned (.int .u8 ((n / 256 ^ i % 256 : Nat) : Int)) ∧ w = w' := by
  go_enter Tryz.func157, Tryz.ntmps157
  go_wp2
  go_ret
  refine ⟨ret_int ?_, rfl⟩
  have e : (256 : Nat) ^ i = 2 ^ (8 * i) := by rw [Nat.pow_mul]
  rw [e]
  simp
theorem of_any (n : Nat) (w : World) : Calls Tryz.prog 128 #[.int .u64 n] w fun e w' => e = .returned (.func (.func 157) #[] #[.pointer (some ⟨w.heap.size, 0, none⟩)]) ∧ w.alloc (.cells #[.int .u64 n] 46) = w' := by
  go_enter Tryz.func128, Tryz.ntmps128
  go_wp2
  go_ret
  exact ⟨rfl, rfl⟩
set_option maxRecDepth 100000 in
theorem number_any (s : List UInt8) (A : Option Addr) (cap : Nat) (hs : s.length ≤ 8) (w : World) (hr : Reads w w.heap.size 1 A s.length (s.map bv)) : Calls Tryz.prog 153 #[.slice A s.length cap] w fun e w' => e = .returned (.int .u64 (numN s)) ∧ w = w' := by
  have HR := Lib.hid hr
  have hlen : (s.length : Int) ≤ 8 := by omega
  clear hr hs
  go_enter Tryz.func153, Tryz.ntmps153
  go_wp2
  go_loopw [2, 7] (fun v i wr => ∃ k : Nat, k ≤ s.length ∧ i = .int .i64 k ∧ v = .int .u64 (numN (s.take k)) ∧ wr = w) (fun _ i _ => s.length - (intOf i).toNat)
  case atStart => exact ⟨0, Nat.zero_le _, rfl, rfl, rfl⟩
  case round =>
    obtain ⟨k, hk, rfl, rfl, rfl⟩ := hrel
    by_cases hlt : k < s.length
    · obtain ⟨ad, u, hA, hb, hu, hc⟩ := HR.out.at_ (k := k) hlt
      obtain ⟨c, hck⟩ : ∃ c, s[k]? = some c := ⟨_, List.getElem?_eq_getElem hlt⟩
      have huc : u = bv c := by rw [List.getElem?_map, hck] at hu; simpa using hu.symm
      subst hA
      subst huc
      have hcc : wr.cell? (ad.add k) = some (.int .u8 c.toNat) := hc
      have hnum : numN (s.take (k + 1)) = numN (s.take k) * 256 + c.toNat := by rw [List.take_add_one, hck]; exact numN_snoc _ _
      have hl : numN (s.take k) < 256 ^ 7 := Nat.lt_of_lt_of_le (numN_lt _) (Nat.pow_le_pow_right (by decide) (by simp; omega))
      have hc256 : c.toNat < 256 := c.toNat_lt
      have hcI : (c.toNat : Int) < 256 := by omega
      generalize numN (s.take k) = m at *
      have hor : bits .or .u64 ((m : Int) * 256) (c.toNat : Int) = ((m * 256 + c.toNat : Nat) : Int) := by
        have h1 : m * 256 < 2 ^ 64 := by have : (256 : Nat) ^ 7 * 256 = 2 ^ 64 := by decide
                                         omega
        have := bits_or_u64 (m * 256) c.toNat h1 (by omega)
        rw [or_byte _ _ hc256] at this
        rw [← this]
        simp
      clear hck hu hc hb HR
      go_wp2
      go_roundw
      case rel => exact ⟨k + 1, by omega, by go_num, by rw [hnum]; simp, trivial⟩
      case measure => simp [intOf]; omega
    · obtain rfl : k = s.length := by omega
      go_wp2
      go_ret
      exact ⟨by simp, rfl⟩
theorem reads1 (w : World) (T : TypeId) (u : Value) : Reads (w.alloc (.cells #[u] T)) (w.heap.size + 1) 1 (some ⟨w.heap.size, 0, none⟩) 1 [u] := by
  refine ⟨rfl, fun _ => ⟨_, rfl, by simp, fun j x hx => ?_⟩⟩
  have hj : j = 0 := by have := (List.getElem?_eq_some_iff.1 hx).1; simpa using this
  subst hj
  simp at hx
  subst hx
  simp [Addr.add]
theorem beN_at (n : Nat) : ∀ (k j : Nat), j < k → (beN n k)[j]? = some (UInt8.ofNat (n / 256 ^ (k - 1 - j) % 256))
  | 0, j, h => by omega
  | k + 1, 0, _ => by simp [beN]
  | k + 1, j + 1, h => by
    rw [beN, List.getElem?_cons_succ, beN_at n k j (by omega)]
    congr 5
    omega
/-- What laying so many bytes hands back: a row of the call's own, behind what was there. -/
def GivesRow (base n : Nat) (xs : List Value) (w : World) (e : Ending) (w' : World) : Prop := ∃ A c, e = .returned (.slice A n c) ∧ w'.ownsRow base 5 1 (.slice A n c) n xs ∧ Below base w w'
set_option maxRecDepth 100000 in
set_option maxHeartbeats 1000000 in
theorem laid_any (n many : Nat) (hm : many ≤ 8) (b base : Nat) (hb : b < base) (A : Option Addr) (m c : Nat) (xs : List Value) (hx : m ≤ 1000) (w : World) (hbase : base ≤ w.heap.size) (hown : w.ownsRow base 5 1 (.slice A m c) m xs) (hc : w.cell? ⟨b, 0, none⟩ = some (.int .u64 n)) :
    Calls Tryz.prog 126 #[.slice A m c, .int .i64 many, .func (.func 157) #[] #[.pointer (some ⟨b, 0, none⟩)]] w (GivesRow base (m + many) (xs ++ (beN n many).map bv) w) := by
  obtain ⟨i0, hi0, hz0, hz1, hz2⟩ := info_parts infoU8
  have HOWN := Lib.hid hown
  have HC := Lib.hid hc
  have hb0 : b < w.heap.size := by omega
  have hmI : (many : Int) ≤ 8 := by omega
  clear hown hc
  go_enter Tryz.func126, Tryz.ntmps126
  go_wp2
  go_loopw [0, 7] (fun v i wr => ∃ (k : Nat) (A : Option Addr) (c : Nat), k ≤ many ∧ i = .int .i64 ((many : Int) - 1 - k) ∧ v = .slice A (m + k) c ∧ Hid (wr.ownsRow base 5 1 (.slice A (m + k) c) (m + k) (xs ++ ((beN n many).take k).map bv) ∧ Below base w wr) ∧ base ≤ wr.heap.size) (fun _ i _ => (intOf i + 1).toNat)
  case atStart => exact ⟨0, A, c, Nat.zero_le _, by simp, rfl, ⟨by simpa using HOWN.out, Below.refl _ _⟩, hbase⟩
  case round =>
    obtain ⟨k, A, c, hk, rfl, rfl, HR, hsz⟩ := hrel
    by_cases hlt : k < many
    · have hcr : wr.cell? ⟨b, 0, none⟩ = some (.int .u64 n) := (HR.out.2.cell (p := ⟨b, 0, none⟩) hb).trans HC.out
      have hge : decide ((many : Int) - 1 - k ≥ 0) = true := by simp; omega
      have HOC := Lib.hid (ofC_any n (many - 1 - k) (by omega) b wr hcr)
      have hcast : ((many - 1 - k : Nat) : Int) = (many : Int) - 1 - k := by omega
      rw [hcast] at HOC
      have hval : bv (UInt8.ofNat (n / 256 ^ (many - 1 - k) % 256)) = .int .u8 ((n / 256 ^ (many - 1 - k) % 256 : Nat) : Int) := by
        unfold bv
        simp
      have hnext : (xs ++ ((beN n many).take k).map bv) ++ [.int .u8 ((n / 256 ^ (many - 1 - k) % 256 : Nat) : Int)] = xs ++ ((beN n many).take (k + 1)).map bv := by
        rw [List.take_add_one, beN_at n many k hlt, List.map_append, ← List.append_assoc, ← hval]
        rfl
      generalize hvv : ((n / 256 ^ (many - 1 - k) % 256 : Nat) : Int) = vv at *
      have HNX := Lib.hid hnext
      clear hcast hval hnext hcr
      go_wp2_with (first | (go_at_call 157; refine HOC.out.mono ?_; rintro e w' ⟨rfl, rfl⟩) | (at_builtin; refine wpList_append_any _ rfl (.tmp 14) (.tmp 18) _ rfl base 5 i0 _ 1 1 Tryz.underlying63 hi0 hz0 hz1 hz2 rfl (by omega) (.slice A (m + k) c) (m + k) (xs ++ ((beN n many).take k).map bv) rfl ?c1 (wr.heap.size + 1) (some ⟨wr.heap.size, 0, none⟩) 1 1 [.int .u8 vv] rfl ?c2 ?c3 ?c4 ?c5 ?c6 ?_))
      case c1 => exact HR.out.1.alloc _
      case c2 => exact reads1 wr _ _
      case c3 => simp [Value.oneCell']
      case c4 => unfold maxLen; omega
      case c5 => omega
      case c6 => simp; omega
      intro v1 w1 hown1 hg1 hat1
      have hown2 : w1.ownsRow base 5 1 v1 (m + k + 1) (xs ++ ((beN n many).take (k + 1)).map bv) := by rw [← HNX.out]; simpa using hown1
      obtain ⟨g, cap', rfl⟩ := ownsRow_succ hown2
      have hB1 : Below base w w1 := HR.out.2.trans (((Below.refl base wr).alloc hsz _).trans (Below.grown (Below.refl _ _) hg1 (by simp; omega) (fun j e => by have := (HR.out.1.lt j e).1; omega)))
      have HO1 := Lib.hid hown2
      have HB1 := Lib.hid hB1
      have hs1 : base ≤ w1.heap.size := by have := hg1.size; simp at this; omega
      clear hown1 hown2 hg1 hat1 hB1
      go_wp2
      go_roundw
      case rel => exact ⟨k + 1, _, _, by omega, by go_num, rfl, ⟨HO1.out, HB1.out⟩, hs1⟩
      case measure => simp [intOf]; omega
    · obtain rfl : k = many := by omega
      go_wp2
      go_ret
      refine ⟨A, c, rfl, ?_, HR.out.2⟩
      have := HR.out.1
      rwa [List.take_of_length_le (by rw [beN_length]; exact Nat.le_refl _)] at this
end Go.Proofs.YtkklmflclmgjeaaGreatDoor

/-
  octet: Fixed, ReadFixed, Sum.
-/
set_option linter.unusedVariables false
set_option linter.unusedSimpArgs false
namespace Go.Proofs.YtkklmflclmgjeaaGreatDoor
open Go.RowKit

theorem ownsRow_base {w : World} {b b' : Nat} {e : TypeId} {size n : Nat} {v : Value} {xs : List Value} (h : w.ownsRow b' e size v n xs) (hb : b ≤ b') : w.ownsRow b e size v n xs :=
  ⟨h.1, h.2.elim .inl (fun ⟨g, cap, cur, hv, hg, r⟩ => .inr ⟨g, cap, cur, hv, Nat.le_trans hb hg, r⟩)⟩
def GivesFixed (n many : Nat) (w : World) (e : Ending) (w' : World) : Prop := ∃ A c, e = .returned (.tuple #[.slice A many c, .int .i64 0]) ∧ w'.ownsRow w.heap.size 5 1 (.slice A many c) many ((beN n many).map bv) ∧ Bel w w'
theorem fixed_any (n many : Nat) (hn : n < 2 ^ 64) (h1 : 1 ≤ many) (h8 : many ≤ 8) (hneed : n < 256 ^ many) (w : World) : Calls Tryz.prog 152 #[.int .u64 n, .int .i64 many] w (GivesFixed n many w) := by
  have HN := Lib.hid (need_any n hn w)
  have g1 : decide ((many : Int) < 1) = false := by simp; omega
  have g2 : decide ((many : Int) > 8) = false := by simp; omega
  have hk : needN n ≤ many := (needN_le_iff n many).2 hneed
  have g3 : decide ((many : Int) < needN n) = false := by simp; omega
  have HL := Lib.hid (laid_any n many h8 w.heap.size (w.heap.size + 1) (by omega) none 0 0 [] (by omega) (w.alloc (.cells #[.int .u64 n] 46)) (by simp) (World.ownsRow_nil _ _ _ _) (by simp))
  have hk4 : ¬ many < needN n := by omega
  clear hn hneed hk
  go_enter Tryz.func152, Tryz.ntmps152
  go_wp2_with (first | (go_at_call 127; refine HN.out.mono ?_; rintro e w' ⟨rfl, rfl⟩) | (go_at_call 128; refine (of_any n _).mono ?_; rintro e w' ⟨rfl, rfl⟩) | (go_at_call 126; refine HL.out.mono ?_; rintro e w1 ⟨A, c, rfl, hown, hbel⟩))
  go_ret2
  refine ⟨A, c, by simp, ?_, ((Bel.refl w).alloc _).trans (Below.mono hbel (Nat.le_succ _))⟩
  have := ownsRow_base hown (Nat.le_succ _)
  simpa using this
theorem readFixed_any (s : List UInt8) (A : Option Addr) (cap : Nat) (h1 : 1 ≤ s.length) (h8 : s.length ≤ 8) (w : World) (hr : Reads w w.heap.size 1 A s.length (s.map bv)) : Calls Tryz.prog 112 #[.slice A s.length cap] w fun e w' => e = .returned (.tuple #[.int .u64 (numN s), .int .i64 0]) ∧ w = w' := by
  have HN := Lib.hid (number_any s A cap h8 w hr)
  have g1 : decide ((s.length : Int) < 1) = false := by simp; omega
  have g2 : decide ((s.length : Int) > 8) = false := by simp; omega
  clear hr h1 h8
  go_enter Tryz.func112, Tryz.ntmps112
  go_wp2_with (go_at_call 153; refine HN.out.mono ?_; rintro e w' ⟨rfl, rfl⟩)
  go_ret2
  exact ⟨rfl, rfl⟩
end Go.Proofs.YtkklmflclmgjeaaGreatDoor

/-
  The document's numbers (for the codec): a number's bytes, no more than it needs; bytes of a string.
-/
set_option linter.unusedVariables false
set_option linter.unusedSimpArgs false
set_option linter.unusedVariables false
set_option linter.unusedSimpArgs false
namespace Go.Proofs.YtkklmflclmgjeaaGreatDoor
open Go.RowKit

theorem add_free {b off : Nat} (l : Nat) : (Addr.add ⟨b, off, none⟩ l) = ⟨b, off + l, none⟩ := by unfold Addr.add; split <;> simp_all
theorem needN_pos {n : Nat} (h : 0 < n) : needN n = needN (n / 256) + 1 := by
  unfold needN
  by_cases h8 : 256 ≤ n
  · have := bl_shift n 8 h8
    rw [show (2 : Nat) ^ 8 = 256 from rfl] at this
    rw [this]
    omega
  · have e : n / 256 = 0 := by omega
    have h1 : bl n ≤ 8 := (bl_le_iff n 8).2 (by omega)
    have h2 : 0 < bl n := (bl_lt_iff n 0).2 (by omega)
    rw [e, bl_zero]
    omega
theorem beN_snoc (n : Nat) : ∀ k, beN n (k + 1) = beN (n / 256) k ++ [UInt8.ofNat (n % 256)]
  | 0 => by simp [beN]
  | k + 1 => by
    rw [beN, beN_snoc n k, beN, List.cons_append]
    congr 3
    rw [Nat.div_div_eq_div_mul, Nat.pow_succ, Nat.mul_comm]
set_option maxRecDepth 100000 in
set_option maxHeartbeats 1000000 in
theorem high_any : ∀ (k n : Nat), n < 256 ^ k → n < 2 ^ 64 → ∀ w : World, Calls Tryz.prog 129 #[.int .u64 n] w fun e w' => ∃ A c, e = .returned (.slice A (needN n) c) ∧ w'.ownsRow w.heap.size 5 1 (.slice A (needN n) c) (needN n) ((beN n (needN n)).map bv) ∧ Bel w w' := by
  intro k
  induction k with
  | zero =>
    intro n hn h64 w
    obtain rfl : n = 0 := by simpa using hn
    go_enter Tryz.func129, Tryz.ntmps129
    go_wp2
    go_ret
    exact ⟨none, 0, rfl, World.ownsRow_nil _ _ _ _, Bel.refl w⟩
  | succ k ih =>
    intro n hn h64 w
    by_cases h0 : n = 0
    · subst h0
      go_enter Tryz.func129, Tryz.ntmps129
      go_wp2
      go_ret
      exact ⟨none, 0, rfl, World.ownsRow_nil _ _ _ _, Bel.refl w⟩
    · have hne : ((n : Int) == 0) = false := beq_eq_false_iff_ne.2 (by omega)
      have IH := Lib.hid (ih (n / 256) (by rw [Nat.pow_succ] at hn; omega) (by omega))
      have hI : (n : Int) ≤ 18446744073709551615 := by omega
      clear hn h64
      clear ih
      go_enter Tryz.func129, Tryz.ntmps129
      go_wp2_with fail
      refine (IH.out w).mono ?_
      rintro e w1 ⟨A1, c1, rfl, hown, hb⟩
      have hnd := needN_pos (n := n) (by omega)
      have hbe : (beN n (needN n)).map bv = (beN (n / 256) (needN (n / 256))).map bv ++ [.int .u8 ((n : Int) % 256)] := by
        rw [hnd, beN_snoc, List.map_append]
        simp [bv]
      have hk8 : needN (n / 256) ≤ 8 := (needN_le_iff _ _).2 (by omega)
      have HND := Lib.hid hnd
      have HBE := Lib.hid hbe
      have hbo : ∀ u ∈ [(.int .u8 ((n : Int) % 256) : Value)], u.oneCell' = true := by simp [Value.oneCell']
      have HO := Lib.hid hown
      have HB := Lib.hid hb
      obtain ⟨i0, hi0, hz0, hz1, hz2⟩ := info_parts infoU8
      clear hown hb IH hnd hbe
      generalize (beN (n / 256) (needN (n / 256))).map bv = ys at *
      generalize needN (n / 256) = K at *
      go_wp2_with (at_builtin; refine wpList_append_any _ rfl (.tmp 7) (.tmp 11) _ rfl w.heap.size 5 i0 _ 1 1 Tryz.underlying63 hi0 hz0 hz1 hz2 rfl (by omega) (.slice A1 K c1) K ys rfl ?c1 (w1.heap.size + 1) (some ⟨w1.heap.size, 0, none⟩) 1 1 [.int .u8 ((n : Int) % 256)] rfl ?c2 hbo ?c3 ?c4 ?c5 ?_)
      case c1 => exact ownsRow_bel HO.out ((Bel.refl w1).alloc _)
      case c2 => exact ⟨by simp, fun _ => ⟨_, rfl, by simp, fun j u hu => by
        have hj : j = 0 := by have := (List.getElem?_eq_some_iff.1 hu).1; simp at this; omega
        subst hj
        simp at hu
        subst hu
        simp [Addr.add, World.cell?_alloc_new]⟩⟩
      case c3 => unfold maxLen; omega
      case c4 => simp; omega
      case c5 => have := HB.out.size; simp; omega
      intro v1 w2 hown2 hg2 hat2
      obtain ⟨g, cap', rfl⟩ := ownsRow_succ hown2
      have HO3 := Lib.hid hown2
      have HB3 : Hid (Bel w w2) := Below.grown (HB.out.alloc _) hg2 (by have := HB.out.size; simp; omega) (fun j e => (HO.out.lt j e).1)
      clear hown2 hg2 hat2
      go_wp2
      go_ret
      rw [HBE.out, HND.out]
      exact ⟨_, _, rfl, HO3.out, HB3.out⟩
theorem beN_pad (n K : Nat) (h : n < 256 ^ K) : ∀ d, beN n (K + d) = List.replicate d 0 ++ beN n K
  | 0 => by simp
  | d + 1 => by
    have e : K + (d + 1) = (K + d) + 1 := by omega
    have h1 : n / 256 ^ (K + d) = 0 := Nat.div_eq_of_lt (Nat.lt_of_lt_of_le h (Nat.pow_le_pow_right (by decide) (by omega)))
    rw [e, beN, beN_pad n K h d, h1, List.replicate_succ, List.cons_append]
    rfl
theorem made_list (z : Value) (n : Nat) : (madeCells #[z] n).toList = List.replicate n z := by
  apply List.ext_getElem?
  intro i
  rw [Array.getElem?_toList]
  by_cases hi : i < n
  · simp [madeCells, hi, Nat.mod_one]
  · simp [madeCells, hi]
theorem own_made (w : World) (n : Nat) (hn : n ≤ maxLen) : (w.alloc (.cells (madeCells #[.int .u8 0] n) 5)).ownsRow w.heap.size 5 1 (.slice (some ⟨w.heap.size, 0, none⟩) n n) n ((List.replicate n (0 : UInt8)).map bv) := by
  refine ⟨by simp, .inr ⟨w.heap.size, n, _, rfl, Nat.le_refl _, World.alloc_heap_new _ _, Nat.le_refl _, hn, by rw [size_madeCells, Nat.mul_one], ?_⟩⟩
  rw [made_list, Nat.mul_one, List.take_of_length_le (by simp), List.map_replicate]
  rfl
theorem make_bytes (kl kc : IntKind) (n : Nat) (hn : n ≤ 281474976710656) (w : World) : (Instr.makeSlice 63 (.int kl (n : Int)) (.int kc (n : Int))).run Tryz.prog w = .ok (.slice (some ⟨w.heap.size, 0, none⟩) n n) (w.alloc (.cells (madeCells #[.int .u8 0] n) 5)) :=
  run_make_row' (P := Tryz.prog) 63 5 (.int .u8 0) 1 Tryz.underlying63 infoU8 rfl kl kc n (by omega) (by omega) w
theorem row_form {w : World} {b e n : Nat} {v : Value} {xs : List Value} (h : w.ownsRow b e 1 v n xs) : ∃ A c, v = .slice A n c := by
  rcases h.2 with ⟨rfl, rfl⟩ | ⟨g, cap, cur, rfl, _⟩
  · exact ⟨none, 0, rfl⟩
  · exact ⟨_, cap, rfl⟩
theorem conv_bytes (s : List UInt8) (W : World) : (convert 9 63 (.string ⟨s.toArray⟩)).run Tryz.prog W = .ok (.slice (some ⟨W.heap.size, 0, none⟩) s.length (grownCap W s.length 0 5)) (Lib.bytesWorld W 5 ⟨s.toArray⟩) := by
  have := Lib.run_convert_string_bytes (P := Tryz.prog) W 9 63 5 ⟨s.toArray⟩ Tryz.underlying9 Tryz.underlying63 Tryz.underlying5
  rw [show (⟨s.toArray⟩ : ByteArray).size = s.length from rfl] at this
  exact this
theorem bytes_bel (s : List UInt8) (W : World) : Bel W (Lib.bytesWorld W 5 ⟨s.toArray⟩) := by
  refine ⟨?_, ?_, ?_, by rw [Lib.bytesWorld_size]; omega, fun k hk => Lib.bytesWorld_at_old W _ _ k hk⟩ <;> simp [Lib.bytesWorld, World.freeze, World.alloc, World.drew, -World.alloc_eq, -World.drew_eq]
theorem bytes_reads (s : List UInt8) (W : World) : Reads (Lib.bytesWorld W 5 ⟨s.toArray⟩) (Lib.bytesWorld W 5 ⟨s.toArray⟩).heap.size 1 (some ⟨W.heap.size, 0, none⟩) s.length (s.map bv) := by
  refine ⟨by simp, fun _ => ⟨_, rfl, by rw [Lib.bytesWorld_size]; simp, fun j u hu => ?_⟩⟩
  have hj : j < s.length := by have := (List.getElem?_eq_some_iff.1 hu).1; simpa using this
  rw [add_free, Nat.zero_add, Lib.bytesWorld_cell W 5 ⟨s.toArray⟩ j hj]
  rw [List.getElem?_map, List.getElem?_eq_getElem hj] at hu
  simp at hu
  subst hu
  simp [bv, List.getD, hj]
theorem cat_bytes (a b : List UInt8) : (⟨a.toArray⟩ : ByteArray) ++ (⟨b.toArray⟩ : ByteArray) = ⟨(a ++ b).toArray⟩ := by
  apply ByteArray.ext
  simp
end Go.Proofs.YtkklmflclmgjeaaGreatDoor

/-
  octet: Number, Text: a number's bytes, how many first; a text's bytes.
-/
set_option linter.unusedVariables false
set_option linter.unusedSimpArgs false
set_option linter.unusedVariables false
set_option linter.unusedSimpArgs false
namespace Go.Proofs.YtkklmflclmgjeaaGreatDoor
open Go.RowKit Go.Lib

/-- A slice that reads as bytes. -/
def BsAt (w : World) (v : Value) (s : List UInt8) : Prop := ∃ A c, v = .slice A s.length c ∧ s.length ≤ c ∧ c ≤ maxLen ∧ Reads w w.heap.size 1 A s.length (s.map bv)
theorem Reads.belH {w w' : World} {A : Option Addr} {n size : Nat} {xs : List Value} (h : Reads w w.heap.size size A n xs) (hb : Bel w w') : Reads w' w'.heap.size size A n xs := (h.keep fun _ hp => hb.cell hp).more hb.size
theorem BsAt.bel {w w' : World} {v : Value} {s : List UInt8} (h : BsAt w v s) (hb : Bel w w') : BsAt w' v s := by
  obtain ⟨A, c, e, h1, h2, h3⟩ := h
  exact ⟨A, c, e, h1, h2, h3.belH hb⟩
theorem BsAt.of_own {w : World} {b n : Nat} {v : Value} {s : List UInt8} (h : w.ownsRow b 5 1 v n (s.map bv)) : BsAt w v s := by
  have hn : n = s.length := by have := h.1; simp at this; exact this.symm
  subst hn
  rcases h.2 with ⟨rfl, h0⟩ | ⟨g, cap, cur, rfl, hbg, hh, hnc, hcm, hcs, htk⟩
  · have hs : s = [] := List.eq_nil_of_length_eq_zero h0
    subst hs
    exact ⟨none, 0, rfl, Nat.le_refl _, Nat.zero_le _, Reads.none_⟩
  · exact ⟨_, cap, rfl, hnc, hcm, Reads.of_own h⟩
def numB (n : Nat) : List UInt8 := UInt8.ofNat (needN n) :: beN n (needN n)
theorem needN_8 {n : Nat} (h : n < 2 ^ 64) : needN n ≤ 8 := (needN_le_iff n 8).2 (by rw [show (256 : Nat) ^ 8 = 2 ^ 64 by decide]; exact h)
set_option maxRecDepth 100000 in
set_option maxHeartbeats 1000000 in
theorem laid2_any (n many : Nat) (hm : many ≤ 8) (b base : Nat) (A : Option Addr) (m c : Nat) (xs : List Value) (hx : m ≤ 1000) (w : World) (hbase : base ≤ w.heap.size) (hown : w.ownsRow base 5 1 (.slice A m c) m xs) (hB : Blk w b 46 #[.int .u64 n]) :
    Calls Tryz.prog 126 #[.slice A m c, .int .i64 many, .func (.func 157) #[] #[.pointer (some ⟨b, 0, none⟩)]] w (GivesRow base (m + many) (xs ++ (beN n many).map bv) w) := by
  obtain ⟨i0, hi0, hz0, hz1, hz2⟩ := info_parts infoU8
  have HOWN := Lib.hid hown
  have HB := Lib.hid hB
  have hmI : (many : Int) ≤ 8 := by omega
  clear hown hB
  go_enter Tryz.func126, Tryz.ntmps126
  go_wp2
  go_loopw [0, 7] (fun v i wr => ∃ (k : Nat) (A : Option Addr) (c : Nat), k ≤ many ∧ i = .int .i64 ((many : Int) - 1 - k) ∧ v = .slice A (m + k) c ∧ Hid (wr.ownsRow base 5 1 (.slice A (m + k) c) (m + k) (xs ++ ((beN n many).take k).map bv) ∧ Below base w wr ∧ Blk wr b 46 #[.int .u64 n]) ∧ base ≤ wr.heap.size) (fun _ i _ => (intOf i + 1).toNat)
  case atStart => exact ⟨0, A, c, Nat.zero_le _, by simp, rfl, ⟨by simpa using HOWN.out, Below.refl _ _, HB.out⟩, hbase⟩
  case round =>
    obtain ⟨k, A, c, hk, rfl, rfl, HR, hsz⟩ := hrel
    by_cases hlt : k < many
    · have hcr : wr.cell? ⟨b, 0, none⟩ = some (.int .u64 n) := HR.out.2.2.cell 0
      have hge : decide ((many : Int) - 1 - k ≥ 0) = true := by simp; omega
      have HOC := Lib.hid (ofC_any n (many - 1 - k) (by omega) b wr hcr)
      have hcast : ((many - 1 - k : Nat) : Int) = (many : Int) - 1 - k := by omega
      rw [hcast] at HOC
      have hval : bv (UInt8.ofNat (n / 256 ^ (many - 1 - k) % 256)) = .int .u8 ((n / 256 ^ (many - 1 - k) % 256 : Nat) : Int) := by
        unfold bv
        simp
      have hnext : (xs ++ ((beN n many).take k).map bv) ++ [.int .u8 ((n / 256 ^ (many - 1 - k) % 256 : Nat) : Int)] = xs ++ ((beN n many).take (k + 1)).map bv := by
        rw [List.take_add_one, beN_at n many k hlt, List.map_append, ← List.append_assoc, ← hval]
        rfl
      generalize hvv : ((n / 256 ^ (many - 1 - k) % 256 : Nat) : Int) = vv at *
      have HNX := Lib.hid hnext
      clear hcast hval hnext hcr
      go_wp2_with (first | (go_at_call 157; refine HOC.out.mono ?_; rintro e w' ⟨rfl, rfl⟩) | (at_builtin; refine wpList_append_any _ rfl (.tmp 14) (.tmp 18) _ rfl base 5 i0 _ 1 1 Tryz.underlying63 hi0 hz0 hz1 hz2 rfl (by omega) (.slice A (m + k) c) (m + k) (xs ++ ((beN n many).take k).map bv) rfl ?c1 (wr.heap.size + 1) (some ⟨wr.heap.size, 0, none⟩) 1 1 [.int .u8 vv] rfl ?c2 ?c3 ?c4 ?c5 ?c6 ?_))
      case c1 => exact HR.out.1.alloc _
      case c2 => exact reads1 wr _ _
      case c3 => simp [Value.oneCell']
      case c4 => unfold maxLen; omega
      case c5 => omega
      case c6 => simp; omega
      intro v1 w1 hown1 hg1 hat1
      have hown2 : w1.ownsRow base 5 1 v1 (m + k + 1) (xs ++ ((beN n many).take (k + 1)).map bv) := by rw [← HNX.out]; simpa using hown1
      obtain ⟨g, cap', rfl⟩ := ownsRow_succ hown2
      have hB1 : Below base w w1 := HR.out.2.1.trans (((Below.refl base wr).alloc hsz _).trans (Below.grown (Below.refl _ _) hg1 (by simp; omega) (fun j e => by have := (HR.out.1.lt j e).1; omega)))
      have hBk : Blk w1 b 46 #[.int .u64 n] := (HR.out.2.2.alloc _).grown hg1 (fun e => own_blk_ne HR.out.1 HR.out.2.2 (by decide) e.symm)
      have HO1 := Lib.hid hown2
      have HB1 := Lib.hid (And.intro hB1 hBk)
      have hs1 : base ≤ w1.heap.size := by have := hg1.size; simp at this; omega
      clear hown1 hown2 hg1 hat1 hB1 hBk
      go_wp2
      go_roundw
      case rel => exact ⟨k + 1, _, _, by omega, by go_num, rfl, ⟨HO1.out, HB1.out.1, HB1.out.2⟩, hs1⟩
      case measure => simp [intOf]; omega
    · obtain rfl : k = many := by omega
      go_wp2
      go_ret
      refine ⟨A, c, rfl, ?_, HR.out.2.1⟩
      have := HR.out.1
      rwa [List.take_of_length_le (by rw [beN_length]; exact Nat.le_refl _)] at this
def GivesB (s : List UInt8) (w : World) (e : Ending) (w' : World) : Prop := ∃ A c, e = .returned (.slice A s.length c) ∧ w'.ownsRow w.heap.size 5 1 (.slice A s.length c) s.length (s.map bv) ∧ Bel w w'
set_option maxRecDepth 100000 in
set_option maxHeartbeats 1000000 in
theorem oNumberE_any (n : Nat) (h64 : n < 2 ^ 64) (w : World) : Calls Tryz.prog 75 #[.int .u64 n] w (GivesB (numB n) w) := by
  have HN := Lib.hid (fun V => need_any n h64 V)
  have h8 := needN_8 h64
  have hlen : (numB n).length = 1 + needN n := by unfold numB; rw [List.length_cons, beN_length]; omega
  have hmap : (numB n).map bv = [.int .u8 (needN n)] ++ (beN n (needN n)).map bv := by
    have : (UInt8.ofNat (needN n)).toNat = needN n := by simp; omega
    unfold numB
    rw [List.map_cons]
    unfold bv
    rw [this]
    rfl
  unfold GivesB
  rw [hlen, hmap]
  have hW : (w.alloc (.cells #[.int .u8 (needN n)] 5)).ownsRow w.heap.size 5 1 (.slice (some ⟨w.heap.size, 0, none⟩) 1 1) 1 [.int .u8 (needN n)] :=
    ⟨rfl, .inr ⟨w.heap.size, 1, _, rfl, Nat.le_refl _, World.alloc_heap_new w _, Nat.le_refl _, by unfold maxLen; omega, rfl, rfl⟩⟩
  have HL := Lib.hid (laid2_any n (needN n) h8 (w.heap.size + 1) w.heap.size (some ⟨w.heap.size, 0, none⟩) 1 1 _ (by omega) ((w.alloc (.cells #[.int .u8 (needN n)] 5)).alloc (.cells #[.int .u64 n] 46)) (by simp; omega) (hW.alloc _) (by have := Blk.new (w.alloc (.cells #[.int .u8 (needN n)] 5)) 46 #[.int .u64 n]; simpa using this))
  have h8I : (needN n : Int) ≤ 8 := by omega
  clear hlen hmap h64 hW
  generalize (beN n (needN n)).map bv = ys at *
  generalize needN n = K at *
  go_enter Tryz.func75, Tryz.ntmps75
  go_wp2_with (first | (go_at_call 127; refine (HN.out _).mono ?_; rintro e w' ⟨rfl, rfl⟩) | (go_at_call 128; refine (of_any n _).mono ?_; rintro e w' ⟨rfl, rfl⟩) | (go_at_call 126; refine HL.out.mono ?_; rintro e w1 ⟨A, c, rfl, hown, hbel⟩))
  go_ret
  exact ⟨A, c, rfl, hown, Below.trans (((Bel.refl w).alloc _).alloc _) hbel⟩
def textB (s : List UInt8) : List UInt8 := numB s.length ++ s
theorem strCells_map (s : ByteArray) : strCells s = s.data.toList.map bv := by
  unfold strCells bv
  rfl
set_option maxRecDepth 100000 in
set_option maxHeartbeats 1000000 in
theorem oText_any (s : ByteArray) (hs : s.size ≤ 1000000) (w : World) : Calls Tryz.prog 76 #[.string s] w (GivesB (textB s.data.toList) w) := by
  have hsl : s.data.toList.length = s.size := rfl
  have HN := Lib.hid (fun V => oNumberE_any s.size (by omega) V)
  have hlen : (textB s.data.toList).length = (numB s.size).length + s.size := by unfold textB; rw [List.length_append, hsl]
  have hmap : (textB s.data.toList).map bv = (numB s.size).map bv ++ strCells s := by unfold textB; rw [List.map_append, strCells_map, hsl]
  unfold GivesB
  rw [hlen, hmap]
  have hnl : (numB s.size).length ≤ 9 := by unfold numB; rw [List.length_cons, beN_length]; have := needN_8 (n := s.size) (by omega); omega
  have hsI : (s.size : Int) ≤ 1000000 := by omega
  obtain ⟨i0, hi0, hz0, hz1, hz2⟩ := info_parts infoU8
  clear hlen hmap hsl
  have HNL := Lib.hid hnl
  clear hnl
  go_enter Tryz.func76, Tryz.ntmps76
  go_wp2_with fail
  refine (HN.out w).mono ?_
  rintro e w1 ⟨A1, c1, rfl, hown, hb⟩
  have HO := Lib.hid hown
  have HB := Lib.hid hb
  have h63 : (numB s.size).length + s.size ≤ maxLen := by have := HNL.out; unfold maxLen; omega
  have hby : (numB s.size).length + s.size ≤ 140737488355328 := by have := HNL.out; omega
  have hbase := hb.size
  clear hown hb HN
  go_wp2_with (at_builtin; refine Lib.wpList_append_own_string w1 rfl (.tmp 6) (.tmp 7) 63 9 rfl w.heap.size 5 i0 Tryz.underlying63 Tryz.underlying9 hi0 hz0 hz1 hz2 _ _ _ rfl HO.out s rfl h63 hby hbase ?_; intro v9 w9 hown9 hg9 hat9; obtain ⟨A9, c9, rfl⟩ := row_form hown9; have hb9 : Bel w w9 := Below.grown HB.out hg9 hbase (fun j e => (HO.out.lt j e).1); have HN9 := Lib.hid (And.intro hown9 hb9); clear hown9 hg9 hat9 hb9)
  go_ret
  exact ⟨A9, c9, rfl, HN9.out.1, HN9.out.2⟩
end Go.Proofs.YtkklmflclmgjeaaGreatDoor

/-
  octet: ReadNumber, ReadText.
-/
set_option linter.unusedVariables false
set_option linter.unusedSimpArgs false
set_option linter.unusedVariables false
set_option linter.unusedSimpArgs false
namespace Go.Proofs.YtkklmflclmgjeaaGreatDoor
open Go.RowKit Go.Lib

/-- The number with whose bytes these begin, and how many these are. -/
def rdNum : List UInt8 → Option (Nat × Nat)
  | [] => none
  | h :: t => if 8 < h.toNat ∨ t.length < h.toNat then none else if needN (numN (t.take h.toNat)) = h.toNat then some (numN (t.take h.toNat), 1 + h.toNat) else none
def numV : Option (Nat × Nat) → Value
  | some (n, m) => .tuple #[.int .u64 n, .int .i64 m, .int .i64 0]
  | none => .tuple #[.int .u64 0, .int .i64 0, .int .i64 120]
theorem BsAt.head {w : World} {A : Option Addr} {c : Nat} {h : UInt8} {t : List UInt8} (hb : BsAt w (.slice A (h :: t).length c) (h :: t)) : ∃ ad : Addr, A = some ad ∧ w.cell? ad = some (bv h) ∧ (h :: t).length ≤ c ∧ c ≤ maxLen := by
  obtain ⟨A', c', e, h1, h2, h3⟩ := hb
  injection e with e1 e2 e3
  subst e1 e3
  obtain ⟨ad, rfl, -, hc⟩ := h3.2 (by simp)
  exact ⟨ad, rfl, by have := hc 0 (bv h) (by simp); simpa [Addr.add] using this, h1, h2⟩
theorem BsAt.tail {w : World} {ad : Addr} {c : Nat} {h : UInt8} {t : List UInt8} (hb : BsAt w (.slice (some ad) (h :: t).length c) (h :: t)) (k : Nat) (h0 : 0 < k) (hk : k ≤ t.length) : Reads w w.heap.size 1 (some (ad.add 1)) k ((t.take k).map bv) := by
  obtain ⟨A', c', e, h1, h2, h3⟩ := hb
  injection e with e1 e2 e3
  subst e1 e3
  obtain ⟨ad', e, hbl, hc⟩ := h3.2 (by simp)
  cases e
  refine ⟨by simp; omega, fun _ => ⟨_, rfl, by rw [block_of_add]; exact hbl, fun j u hu => ?_⟩⟩
  rw [add_of_add, Nat.add_comm]
  refine hc (j + 1) u ?_
  rw [List.map_cons, List.getElem?_cons_succ]
  rw [List.getElem?_map, List.getElem?_take] at hu
  rw [List.getElem?_map]
  split at hu
  · exact hu
  · cases hu
set_option maxRecDepth 100000 in
set_option maxHeartbeats 2000000 in
theorem oReadNumber_any (v : Value) (s : List UInt8) (hs : s.length ≤ 1000000) (w : World) (h : BsAt w v s) : Calls Tryz.prog 131 #[v] w fun e w' => e = .returned (numV (rdNum s)) ∧ Bel w w' := by
  have HB := Lib.hid h
  obtain ⟨R, hR⟩ : ∃ R, R = rdNum s := ⟨_, rfl⟩
  rw [← hR]
  have HR := Lib.hid hR
  clear hR
  obtain ⟨A, c, rfl, hc, hcm, -⟩ := h
  cases s with
  | nil =>
    have hf : R = none := HR.out
    clear hs hc
    go_enter Tryz.func131, Tryz.ntmps131
    go_wp2
    refine wp_scope_forward 0 rfl ?_
    go_wp2
    go_step3
    refine ⟨rfl, ?_⟩
    go_wp2
    rw [Exit.noGoto_ret]
    go_ret3
    exact ⟨by first | rfl | (rw [hf]; rfl), by (repeat (first | exact Below.refl _ _ | assumption | exact Bel.refl _ | refine Bel.alloc ?_ _ | refine Bel.drew ?_ | refine Bel.drewN ?_ _ | refine Bel.then_ ?_ (by assumption) | refine Bel.setCell ?_ (by first | (simp; done) | (simp; omega)) _))⟩
  | cons hd t =>
    obtain ⟨ad, rfl, p0, -, -⟩ := HB.out.head
    have hcell : w.cell? ad = some (.int .u8 hd.toNat) := p0
    have htl := fun k h0 hk => HB.out.tail k h0 hk
    have hlI : (t.length : Int) ≤ 999999 := by simp at hs; omega
    have hcI : t.length + 1 ≤ c := by simpa using hc
    have hz0 : ((t.length : Int) + 1 == 0) = false := by rw [beq_eq_false_iff_ne]; omega
    have HRD : Hid (R = if 8 < hd.toNat ∨ t.length < hd.toNat then none else if needN (numN (t.take hd.toNat)) = hd.toNat then some (numN (t.take hd.toNat), 1 + hd.toNat) else none) := HR.out
    obtain ⟨b, off, spot⟩ := ad
    obtain rfl : spot = none := World.cell?_spot hcell
    have hbw : b < w.heap.size := World.block_lt_of_cell? (w := w) (a := ⟨b, off, none⟩) hcell
    have hd256 : hd.toNat ≤ 255 := by have := hd.toNat_lt; omega
    clear p0 hs hc HR HB
    generalize hd.toNat = K at *
    by_cases h8 : 8 < K
    · have hf : R = none := by rw [HRD.out, if_pos (.inl h8)]
      have h8I : (8 : Int) < K := by omega
      go_enter Tryz.func131, Tryz.ntmps131
      go_wp2
      refine wp_scope_forward 0 rfl ?_
      go_wp2
      go_step3
      refine ⟨rfl, ?_⟩
      go_wp2
      rw [Exit.noGoto_ret]
      go_ret3
      exact ⟨by first | rfl | (rw [hf]; rfl), by (repeat (first | exact Below.refl _ _ | assumption | exact Bel.refl _ | refine Bel.alloc ?_ _ | refine Bel.drew ?_ | refine Bel.drewN ?_ _ | refine Bel.then_ ?_ (by assumption) | refine Bel.setCell ?_ (by first | (simp; done) | (simp; omega)) _))⟩
    · have h8b : decide ((8 : Int) < K) = false := by simp; omega
      have h8I : (K : Int) ≤ 8 := by omega
      by_cases hlt : t.length < K
      · have hf : R = none := by rw [HRD.out, if_pos (.inr hlt)]
        have hltI : (t.length : Int) < K := by omega
        go_enter Tryz.func131, Tryz.ntmps131
        go_wp2
        refine wp_scope_forward 0 rfl ?_
        go_wp2
        go_step3
        refine ⟨rfl, ?_⟩
        go_wp2
        rw [Exit.noGoto_ret]
        go_ret3
        exact ⟨by first | rfl | (rw [hf]; rfl), by (repeat (first | exact Below.refl _ _ | assumption | exact Bel.refl _ | refine Bel.alloc ?_ _ | refine Bel.drew ?_ | refine Bel.drewN ?_ _ | refine Bel.then_ ?_ (by assumption) | refine Bel.setCell ?_ (by first | (simp; done) | (simp; omega)) _))⟩
      · have hltb : decide (t.length < K) = false := by simp; omega
        have hKl : K ≤ t.length := by omega
        obtain ⟨s, hs⟩ : ∃ s, s = t.take K := ⟨_, rfl⟩
        have HRS : Hid (R = if needN (numN s) = K then some (numN s, 1 + K) else none) := by show _ = _; rw [HRD.out, if_neg (by omega), hs]
        have hsl : s.length = K := by rw [hs, List.length_take]; omega
        have hn64 : numN s < 2 ^ 64 := Nat.lt_of_lt_of_le (numN_lt s) (by rw [hsl, show (2 : Nat) ^ 64 = 256 ^ 8 by decide]; exact Nat.pow_le_pow_right (by decide) (by omega))
        have hn64I : (numN s : Int) ≤ 18446744073709551615 := by omega
        have HND := Lib.hid (fun V => (need_any (numN s) hn64 V).mono fun e w' h => And.intro h.1 h.2.symm)
        by_cases h0 : K = 0
        · subst h0
          have hs0 : s = [] := List.eq_nil_of_length_eq_zero hsl
          subst hs0
          have hf : R = some (0, 1) := HRS.out
          have HNM := Lib.hid (fun (V : World) (A' : Option Addr) => number_any [] A' 0 (by simp) V ⟨by simp, fun h => by simp at h⟩)
          have HN0 := Lib.hid (fun V => (need_any 0 (by decide) V).mono fun e w' h => And.intro h.1 h.2.symm)
          have hnl : numN [] = 0 := rfl
          have hne0 : needN 0 = 0 := rfl
          rw [hnl] at HNM
          rw [hne0] at HN0
          clear hs htl hsl hn64 HRD HND hn64I hnl hne0
          go_enter Tryz.func131, Tryz.ntmps131
          go_wp2
          refine wp_scope_forward 0 rfl ?_
          go_wp2_with fail
          refine (HNM.out _ _).mono ?_
          rintro e w' ⟨rfl, rfl⟩
          go_wp2_with fail
          go_quiet ((go_at_call 127; exact Calls.quiet_of_same (HN0.out _)))
          go_wp2_with fail
          go_quiet (fail)
          go_wp2_with fail
          rw [jump_ret]
          go_ret3
          exact ⟨by rw [hf]; rfl, by (repeat (first | exact Below.refl _ _ | assumption | exact Bel.refl _ | refine Bel.alloc ?_ _ | refine Bel.drew ?_ | refine Bel.drewN ?_ _ | refine Bel.then_ ?_ (by assumption) | refine Bel.setCell ?_ (by first | (simp; done) | (simp; omega)) _))⟩
        · have hKp : 0 < K := by omega
          have hKpI : (0 : Int) < K := by omega
          have hr := htl K hKp hKl
          rw [add_free] at hr
          rw [← hs, ← hsl] at hr
          have HNM := Lib.hid (fun V (hb : Bel w V) => number_any s (some ⟨b, off + 1, none⟩) K (by omega) V (hr.belH hb))
          have HSL := Lib.hid hsl
          rw [hsl] at HNM
          clear hs htl hr hsl hn64 HRD h0 hlt
          generalize numN s = n at *
          by_cases hnk : needN n = K
          · have hf : R = some (n, 1 + K) := by rw [HRS.out, if_pos hnk]
            rw [hnk] at HND
            have hne : ((K : Int) != K) = false := by simp
            clear hnk
            go_enter Tryz.func131, Tryz.ntmps131
            go_wp2
            refine wp_scope_forward 0 rfl ?_
            go_wp2_with fail
            refine (HNM.out _ (by (repeat (first | exact Below.refl _ _ | assumption | exact Bel.refl _ | refine Bel.alloc ?_ _ | refine Bel.drew ?_ | refine Bel.drewN ?_ _ | refine Bel.then_ ?_ (by assumption) | refine Bel.setCell ?_ (by first | (simp; done) | (simp; omega)) _)))).mono ?_
            rintro e w' ⟨rfl, rfl⟩
            go_wp2_with fail
            go_quiet ((go_at_call 127; exact Calls.quiet_of_same (HND.out _)))
            go_wp2_with fail
            go_quiet (fail)
            go_wp2_with fail
            rw [jump_ret]
            go_ret3
            exact ⟨by rw [hf]; unfold numV; simp, by (repeat (first | exact Below.refl _ _ | assumption | exact Bel.refl _ | refine Bel.alloc ?_ _ | refine Bel.drew ?_ | refine Bel.drewN ?_ _ | refine Bel.then_ ?_ (by assumption) | refine Bel.setCell ?_ (by first | (simp; done) | (simp; omega)) _))⟩
          · have hf : R = none := by rw [HRS.out, if_neg hnk]
            have hne : ((needN n : Int) != K) = true := by rw [bne_iff_ne]; omega
            clear hnk
            generalize needN n = N at *
            go_enter Tryz.func131, Tryz.ntmps131
            go_wp2
            refine wp_scope_forward 0 rfl ?_
            go_wp2_with fail
            refine (HNM.out _ (by (repeat (first | exact Below.refl _ _ | assumption | exact Bel.refl _ | refine Bel.alloc ?_ _ | refine Bel.drew ?_ | refine Bel.drewN ?_ _ | refine Bel.then_ ?_ (by assumption) | refine Bel.setCell ?_ (by first | (simp; done) | (simp; omega)) _)))).mono ?_
            rintro e w' ⟨rfl, rfl⟩
            go_wp2_with fail
            go_quiet ((go_at_call 127; exact Calls.quiet_of_same (HND.out _)))
            go_wp2
            go_step3
            refine ⟨rfl, ?_⟩
            go_wp2
            rw [Exit.noGoto_ret]
            go_ret3
            exact ⟨by first | rfl | (rw [hf]; rfl), by (repeat (first | exact Below.refl _ _ | assumption | exact Bel.refl _ | refine Bel.alloc ?_ _ | refine Bel.drew ?_ | refine Bel.drewN ?_ _ | refine Bel.then_ ?_ (by assumption) | refine Bel.setCell ?_ (by first | (simp; done) | (simp; omega)) _))⟩
end Go.Proofs.YtkklmflclmgjeaaGreatDoor

/-
  octet: ReadText.
-/
set_option linter.unusedVariables false
set_option linter.unusedSimpArgs false
set_option linter.unusedVariables false
set_option linter.unusedSimpArgs false
namespace Go.Proofs.YtkklmflclmgjeaaGreatDoor
open Go.RowKit Go.Lib

def strV (s : List UInt8) : Value := .string ⟨s.toArray⟩
theorem strOf_bytes (s : List UInt8) : strOfNums (s.map fun c => (c.toNat : Int)) = ⟨s.toArray⟩ := by
  unfold strOfNums
  rw [List.map_map]
  have : (s.map ((fun n : Int => UInt8.ofNat n.toNat) ∘ fun c => (c.toNat : Int))) = s := by
    conv => rhs; rw [← List.map_id s]
    apply List.map_congr_left
    intro c _
    simp
  rw [this]
theorem conv_reads {w : World} {B : Nat} {A : Option Addr} {s : List UInt8} (cap : Nat) (h : Reads w B 1 A s.length (s.map bv)) : (convert 63 9 (.slice A s.length cap)).run Tryz.prog w = .ok (strV s) w := by
  cases A with
  | none =>
    have : s = [] := by
      cases s with
      | nil => rfl
      | cons c s => obtain ⟨ad, e, _⟩ := h.2 (by simp); cases e
    subst this
    exact run_convert_bytes_nil (P := Tryz.prog) w 63 5 Tryz.underlying63 Tryz.underlying5 0 cap 9 Tryz.underlying9
  | some a =>
    have hl : (loadCells a s.length).run Tryz.prog w = .ok ((s.map fun c => (c.toNat : Int)).map (Value.int .u8)).toArray w := by
      have := run_loadCells_list (P := Tryz.prog) w a (s.map bv) (fun j v hj => by
        have hjl : j < s.length := by have := (List.getElem?_eq_some_iff.1 hj).1; simpa using this
        obtain ⟨ad, u, e, _, hu, hc⟩ := h.at_ hjl
        cases e
        rw [hj] at hu
        cases hu
        exact hc)
      rw [List.length_map] at this
      rw [this, List.map_map]
      rfl
    rw [show strV s = .string (strOfNums (s.map fun c => (c.toNat : Int))) by rw [strOf_bytes]; rfl, run_convert_bytes_string w 63 9 5 _ s.length cap Tryz.underlying63 Tryz.underlying5 Tryz.underlying9, run_bytesToString w _ s.length cap _ hl, foldl_push_bytes]
    simp [strOfNums, ByteArray.empty, ByteArray.emptyWithCapacity]
    rfl
theorem rdNum_cons (h : UInt8) (t : List UInt8) : rdNum (h :: t) = if 8 < h.toNat ∨ t.length < h.toNat then none else if needN (numN (t.take h.toNat)) = h.toNat then some (numN (t.take h.toNat), 1 + h.toNat) else none := rfl
theorem rdNum_le {s : List UInt8} {n m : Nat} (h : rdNum s = some (n, m)) : 1 ≤ m ∧ m ≤ s.length ∧ m ≤ 9 ∧ n < 2 ^ 64 := by
  cases s with
  | nil => cases h
  | cons hd t =>
    rw [rdNum_cons] at h
    by_cases hn : 8 < hd.toNat ∨ t.length < hd.toNat
    · rw [if_pos hn] at h; cases h
    · rw [if_neg hn] at h
      by_cases he : needN (numN (t.take hd.toNat)) = hd.toNat
      · rw [if_pos he] at h
        have h := Option.some.inj h
        injection h with h1 h2
        subst h1 h2
        refine ⟨by omega, by simp; omega, by omega, ?_⟩
        refine Nat.lt_of_lt_of_le (numN_lt _) ?_
        rw [show (2 : Nat) ^ 64 = 256 ^ 8 by decide, List.length_take]
        exact Nat.pow_le_pow_right (by decide) (by omega)
      · rw [if_neg he] at h; cases h
/-- The text with whose bytes these begin, and how many these are. -/
def rdText (s : List UInt8) : Option (List UInt8 × Nat) := match rdNum s with
  | some (n, m) => if s.length - m < n then none else some ((s.drop m).take n, m + n)
  | none => none
def textV : Option (List UInt8 × Nat) → Value
  | some (x, m) => .tuple #[strV x, .int .i64 m, .int .i64 0]
  | none => .tuple #[.string ⟨#[]⟩, .int .i64 0, .int .i64 120]
theorem BsAt.cut {w : World} {b off c : Nat} {s : List UInt8} (h : BsAt w (.slice (some ⟨b, off, none⟩) s.length c) s) (k n : Nat) (hk : k + n ≤ s.length) : Reads w w.heap.size 1 (some ⟨b, off + k, none⟩) n (((s.drop k).take n).map bv) := by
  obtain ⟨A', c', e, h1, h2, h3⟩ := h
  injection e with e1 e2 e3
  subst e1 e3
  refine ⟨by simp; omega, fun hn => ?_⟩
  obtain ⟨ad, e, hbl, hc⟩ := h3.2 (by omega)
  cases e
  refine ⟨_, rfl, hbl, fun j u hu => ?_⟩
  have := hc (k + j) u (by
    rw [List.getElem?_map, List.getElem?_take] at hu
    split at hu
    · rw [List.getElem?_drop] at hu
      rw [List.getElem?_map]
      exact hu
    · cases hu)
  rw [add_free] at this ⊢
  rw [Nat.add_assoc]
  exact this
set_option maxRecDepth 100000 in
set_option maxHeartbeats 2000000 in
theorem oReadText_any (v : Value) (s : List UInt8) (hs : s.length ≤ 1000000) (w : World) (h : BsAt w v s) : Calls Tryz.prog 85 #[v] w fun e w' => e = .returned (textV (rdText s)) ∧ Bel w w' := by
  have HN := Lib.hid (oReadNumber_any v s hs w h)
  have HB := Lib.hid h
  obtain ⟨R, hR⟩ : ∃ R, R = rdText s := ⟨_, rfl⟩
  rw [← hR]
  have HR := Lib.hid hR
  clear hR
  unfold rdText at HR
  obtain ⟨A, c, rfl, hc, hcm, -⟩ := h
  have hlI : (s.length : Int) ≤ 1000000 := by omega
  cases hrd : rdNum s with
  | none =>
    rw [hrd] at HN HR
    have hf : R = none := HR.out
    unfold numV at HN
    clear hrd hc hcm hs
    go_enter Tryz.func85, Tryz.ntmps85
    go_wp2_with fail
    refine HN.out.mono ?_
    rintro e w1 ⟨rfl, hb1⟩
    go_wp2
    go_ret3
    exact ⟨by first | rfl | (rw [hf]; rfl), hb1⟩
  | some p =>
    obtain ⟨n, m⟩ := p
    obtain ⟨hm1, hml, hm9, hn64⟩ := rdNum_le hrd
    rw [hrd] at HN HR
    unfold numV at HN
    have hmI : (m : Int) ≤ s.length := by omega
    have hm1I : (1 : Int) ≤ m := by omega
    have hsub : (s.length : Int) - m = ((s.length - m : Nat) : Int) := by omega
    have hw64 : IntKind.u64.wrap ((s.length : Int) - m) = ((s.length - m : Nat) : Int) := by rw [hsub]; exact wrap_u64 _ (by omega)
    have hnI : (n : Int) ≤ 18446744073709551615 := by omega
    by_cases hgt : s.length - m < n
    · have hf : R = none := by rw [HR.out]; exact if_pos hgt
      have hgI : ((s.length : Int) - m) < n := by omega
      clear hrd hsub hn64 hc hcm hs
      go_enter Tryz.func85, Tryz.ntmps85
      go_wp2_with fail
      refine HN.out.mono ?_
      rintro e w1 ⟨rfl, hb1⟩
      go_wp2
      go_ret3
      exact ⟨by first | rfl | (rw [hf]; rfl), hb1⟩
    · have hf : R = some ((s.drop m).take n, m + n) := by rw [HR.out]; exact if_neg hgt
      have hgb : decide (s.length - m < n) = false := by simp; omega
      have hgI : (n : Int) ≤ (s.length : Int) - m := by omega
      have hne : s ≠ [] := fun e => by rw [e] at hml; simp at hml; omega
      obtain ⟨hd, t, rfl⟩ : ∃ hd t, s = hd :: t := by cases s with
        | nil => exact absurd rfl hne
        | cons a b => exact ⟨a, b, rfl⟩
      obtain ⟨ad, rfl, p0, -, -⟩ := HB.out.head
      obtain ⟨b, off, spot⟩ := ad
      obtain rfl : spot = none := World.cell?_spot p0
      have hrd2 := HB.out.cut m n (by omega)
      obtain ⟨x, hx⟩ : ∃ x, x = ((hd :: t).drop m).take n := ⟨_, rfl⟩
      rw [← hx] at hrd2 hf
      have hxl : x.length = n := by rw [hx, List.length_take, List.length_drop]; omega
      have HCV := Lib.hid (fun V (hb : Bel w V) => conv_reads n (s := x) (by rw [hxl]; exact hrd2.belH hb))
      rw [hxl] at HCV
      have hnk : m + n ≤ (hd :: t).length := by omega
      have HXL := Lib.hid hxl
      clear hrd hsub hn64 hs hne hrd2 hx hxl p0 hgt HR
      have HF := Lib.hid hf
      simp only [List.length_cons] at *
      have hnkI : (m : Int) + n ≤ (t.length : Int) + 1 := by omega
      have htn : ((m : Int) + n).toNat = m + n := by omega
      have htm : ((m : Int) + n - m).toNat = n := by omega
      have hcL : (t.length : Int) + 1 ≤ c := by omega
      have hcL2 : (m : Int) + n ≤ c := by omega
      have hlJ : (t.length : Int) ≤ 999999 := by omega
      clear hf hw64 hnI hlI
      by_cases hn0 : n = 0
      · subst hn0
        have hx0 : x = [] := List.eq_nil_of_length_eq_zero HXL.out
        subst hx0
        have hcv := fun (V : World) (A' : Option Addr) (c' : Nat) => conv_reads (w := V) (B := 0) (A := A') (s := []) c' ⟨rfl, fun h => by simp at h⟩
        simp only [List.length_nil] at hcv
        clear HCV htm htn hnkI hcL2 hgI hgb
        go_enter Tryz.func85, Tryz.ntmps85
        go_wp2_with fail
        refine HN.out.mono ?_
        rintro e w1 ⟨rfl, hb1⟩
        go_wp2
        go_ret3
        exact ⟨by rw [HF.out]; unfold textV; simp, hb1⟩
      · have hnp : (0 : Int) < n := by omega
        go_enter Tryz.func85, Tryz.ntmps85
        go_wp2_with fail
        refine HN.out.mono ?_
        rintro e w1 ⟨rfl, hb1⟩
        have hcv := HCV.out w1 hb1
        go_wp2
        go_ret3
        exact ⟨by rw [HF.out]; unfold textV; simp, hb1⟩
end Go.Proofs.YtkklmflclmgjeaaGreatDoor

/-
  The document's octet: Number, Text, ReadNumber, ReadText, ReadFixed.
-/
set_option linter.unusedVariables false
set_option linter.unusedSimpArgs false
set_option linter.unusedVariables false
set_option linter.unusedSimpArgs false
namespace Go.Proofs.YtkklmflclmgjeaaGreatDoor
open Go.RowKit Go.Lib

set_option maxRecDepth 100000 in
theorem r2read_any (s : List UInt8) (A : Option Addr) (cap : Nat) (hs : s.length ≤ 8) (w : World) (hr : Reads w w.heap.size 1 A s.length (s.map bv)) :
    Calls Tryz.prog 155 #[.slice A s.length cap] w fun e w' => e = .returned (.int .u64 (numN s)) ∧ w = w' := by
  have HR := Lib.hid hr
  have hlen : (s.length : Int) ≤ 8 := by omega
  clear hr
  go_enter Tryz.func155, Tryz.ntmps155
  go_wp2
  go_loopw [3, 4] (fun v i wr => ∃ k : Nat, k ≤ s.length ∧ i = .int .i64 k ∧ v = .int .u64 (numN (s.take k)) ∧ wr = w) (fun _ i _ => s.length - (intOf i).toNat)
  case atStart => exact ⟨0, Nat.zero_le _, rfl, rfl, rfl⟩
  case round =>
    obtain ⟨k, hk, rfl, rfl, rfl⟩ := hrel
    by_cases hlt : k < s.length
    · obtain ⟨ad, u, hA, hb, hu, hc⟩ := HR.out.at_ (k := k) hlt
      obtain ⟨c, hck⟩ : ∃ c, s[k]? = some c := ⟨_, List.getElem?_eq_getElem hlt⟩
      have huc : u = bv c := by rw [List.getElem?_map, hck] at hu; simpa using hu.symm
      subst hA
      subst huc
      have hcc : wr.cell? (ad.add k) = some (.int .u8 c.toNat) := hc
      have hnum : numN (s.take (k + 1)) = numN (s.take k) * 256 + c.toNat := by rw [List.take_add_one, hck]; exact numN_snoc _ _
      have hl : numN (s.take k) < 256 ^ 7 := Nat.lt_of_lt_of_le (numN_lt _) (Nat.pow_le_pow_right (by decide) (by rw [List.length_take]; omega))
      have hlI : (numN (s.take k) : Int) ≤ 72057594037927935 := by have : numN (s.take k) < 72057594037927936 := hl; omega
      have hc256 : c.toNat < 256 := c.toNat_lt
      have hcI : (c.toNat : Int) ≤ 255 := by omega
      generalize numN (s.take k) = m at *
      have HNUM := Lib.hid hnum
      clear hck hu hc hb HR hnum hl
      go_wp2
      go_roundw
      case rel => exact ⟨k + 1, by omega, by go_num, by rw [HNUM.out]; congr 1; push_cast; omega, by first | rfl | trivial⟩
      case measure => simp [intOf]; omega
    · obtain rfl : k = s.length := by omega
      rw [List.take_length] at *
      go_wp2
      go_ret
      exact ⟨rfl, rfl⟩
theorem r2ReadFixed_any (s : List UInt8) (A : Option Addr) (cap : Nat) (h1 : 1 ≤ s.length) (hs : s.length ≤ 8) (w : World) (hr : Reads w w.heap.size 1 A s.length (s.map bv)) :
    Calls Tryz.prog 125 #[.slice A s.length cap] w fun e w' => e = .returned (.tuple #[.int .u64 (numN s), .int .i64 0]) ∧ w = w' := by
  have HR := Lib.hid (r2read_any s A cap hs w hr)
  have h1I : (1 : Int) ≤ s.length := by omega
  have h8I : (s.length : Int) ≤ 8 := by omega
  clear hr hs h1
  go_enter Tryz.func125, Tryz.ntmps125
  go_wp2_with fail
  refine HR.out.mono ?_
  rintro e w' ⟨rfl, rfl⟩
  go_wp2
  go_ret2
  exact ⟨rfl, rfl⟩
theorem numN_from (l : List UInt8) : ∀ m, l.foldl (fun n c => n * 256 + c.toNat) m = m * 256 ^ l.length + numN l := by
  induction l with
  | nil => intro m; simp [numN]
  | cons c l ih =>
    intro m
    rw [List.foldl_cons, ih]
    have : numN (c :: l) = c.toNat * 256 ^ l.length + numN l := by unfold numN; rw [List.foldl_cons, ih, Nat.zero_mul, Nat.zero_add]; rfl
    rw [this, List.length_cons, Nat.pow_succ, Nat.add_mul]
    have e : m * (256 ^ l.length * 256) = m * 256 * 256 ^ l.length := by rw [Nat.mul_assoc, Nat.mul_comm 256]
    rw [e]
    omega
theorem numN_cons (c : UInt8) (l : List UInt8) : numN (c :: l) = c.toNat * 256 ^ l.length + numN l := by
  have := numN_from l c.toNat
  unfold numN
  rw [List.foldl_cons]
  rw [show 0 * 256 + c.toNat = c.toNat by omega]
  rw [this]
  rfl
theorem need_cons (h : UInt8) (t : List UInt8) : needN (numN (h :: t)) = (h :: t).length ↔ h.toNat ≠ 0 := by
  rw [numN_cons, List.length_cons]
  have hlt := numN_lt t
  constructor
  · intro he h0
    rw [h0] at he
    have : needN (0 * 256 ^ t.length + numN t) ≤ t.length := (needN_le_iff _ _).2 (by omega)
    omega
  · intro h0
    have h1 : ¬ needN (h.toNat * 256 ^ t.length + numN t) ≤ t.length := fun hle => by
      have := (needN_le_iff _ _).1 hle
      have : 256 ^ t.length ≤ h.toNat * 256 ^ t.length := Nat.le_mul_of_pos_left _ (by omega)
      omega
    have h2 : needN (h.toNat * 256 ^ t.length + numN t) ≤ t.length + 1 := (needN_le_iff _ _).2 (by
      have := h.toNat_lt
      rw [Nat.pow_succ]
      have : (h.toNat + 1) * 256 ^ t.length ≤ 256 * 256 ^ t.length := Nat.mul_le_mul_right _ (by omega)
      rw [Nat.add_mul] at this
      omega)
    omega
set_option maxRecDepth 100000 in
set_option maxHeartbeats 1000000 in
theorem r2Number_any (n : Nat) (h64 : n < 2 ^ 64) (w : World) : Calls Tryz.prog 78 #[.int .u64 n] w (GivesB (numB n) w) := by
  have HH := Lib.hid (high_any 8 n (by rw [show (256 : Nat) ^ 8 = 2 ^ 64 by decide]; exact h64) h64 w)
  have h8 := needN_8 h64
  have hlen : (numB n).length = 1 + needN n := by unfold numB; rw [List.length_cons, beN_length]; omega
  have hmap : (numB n).map bv = [.int .u8 (needN n)] ++ (beN n (needN n)).map bv := by
    have : (UInt8.ofNat (needN n)).toNat = needN n := by simp; omega
    unfold numB
    rw [List.map_cons]
    unfold bv
    rw [this]
    rfl
  unfold GivesB
  rw [hlen, hmap]
  have h1c := bv_one (beN n (needN n))
  have h8I : (needN n : Int) ≤ 8 := by omega
  obtain ⟨i0, hi0, hz0, hz1, hz2⟩ := info_parts infoU8
  have hp1 : (0 : Nat) < 1 := by omega
  clear hlen hmap h64
  generalize (beN n (needN n)).map bv = ys at *
  generalize needN n = K at *
  go_enter Tryz.func78, Tryz.ntmps78
  go_wp2_with fail
  refine HH.out.mono ?_
  rintro e w1 ⟨A1, c1, rfl, hown, hb⟩
  have hal : Bel w1 (w1.alloc (.cells #[.int .u8 K] 5)) := (Bel.refl w1).alloc _
  have HX := Lib.hid ((Reads.of_own hown).belH hal)
  have HOW : Hid ((w1.alloc (.cells #[.int .u8 K] 5)).ownsRow w1.heap.size 5 1 (.slice (some ⟨w1.heap.size, 0, none⟩) 1 1) 1 [.int .u8 K]) :=
    ⟨rfl, .inr ⟨w1.heap.size, 1, _, rfl, Nat.le_refl _, World.alloc_heap_new w1 _, Nat.le_refl _, by unfold maxLen; omega, rfl, rfl⟩⟩
  have h63 : 1 + K ≤ maxLen := by unfold maxLen; omega
  have hby : (1 + K) * 1 ≤ 140737488355328 := by omega
  have HS : w1.heap.size ≤ (w1.alloc (.cells #[.int .u8 K] 5)).heap.size := hal.size
  have HAL := Lib.hid hal
  have HB := Lib.hid hb
  clear hown hb hal HH
  go_wp2_with (at_builtin; refine wpList_append_any _ rfl (.tmp 9) (.tmp 10) _ rfl w1.heap.size 5 i0 _ 1 1 Tryz.underlying63 hi0 hz0 hz1 hz2 rfl hp1 _ 1 _ rfl HOW.out _ A1 K c1 ys rfl HX.out h1c h63 hby HS ?_; intro v9 w9 hown9 hg9 hat9; obtain ⟨A9, c9, rfl⟩ := row_form hown9; have hb9 : Bel w1 w9 := Below.grown HAL.out hg9 HS (fun j e => (HOW.out.lt j e).1); have HN9 := Lib.hid (And.intro (ownsRow_base hown9 HB.out.size) (HB.out.then_ hb9)); clear hown9 hg9 hat9 hb9)
  go_ret
  exact ⟨A9, c9, rfl, HN9.out.1, HN9.out.2⟩
set_option maxRecDepth 100000 in
set_option maxHeartbeats 1000000 in
theorem r2Text_any (s : ByteArray) (hs : s.size ≤ 1000000) (w : World) : Calls Tryz.prog 79 #[.string s] w (GivesB (textB s.data.toList) w) := by
  have hsl : s.data.toList.length = s.size := rfl
  have HN := Lib.hid (fun V => r2Number_any s.size (by omega) V)
  have hlen : (textB s.data.toList).length = (numB s.size).length + s.size := by unfold textB; rw [List.length_append, hsl]
  have hmap : (textB s.data.toList).map bv = (numB s.size).map bv ++ strCells s := by unfold textB; rw [List.map_append, strCells_map, hsl]
  unfold GivesB
  rw [hlen, hmap]
  have hnl : (numB s.size).length ≤ 9 := by unfold numB; rw [List.length_cons, beN_length]; have := needN_8 (n := s.size) (by omega); omega
  have hsI : (s.size : Int) ≤ 1000000 := by omega
  obtain ⟨i0, hi0, hz0, hz1, hz2⟩ := info_parts infoU8
  clear hlen hmap hsl
  have HNL := Lib.hid hnl
  clear hnl
  go_enter Tryz.func79, Tryz.ntmps79
  go_wp2_with fail
  refine (HN.out w).mono ?_
  rintro e w1 ⟨A1, c1, rfl, hown, hb⟩
  have HO := Lib.hid hown
  have HB := Lib.hid hb
  have h63 : (numB s.size).length + s.size ≤ maxLen := by have := HNL.out; unfold maxLen; omega
  have hby : (numB s.size).length + s.size ≤ 140737488355328 := by have := HNL.out; omega
  have hbase := hb.size
  clear hown hb HN
  go_wp2_with (at_builtin; refine Lib.wpList_append_own_string w1 rfl (.tmp 6) (.tmp 7) 63 9 rfl w.heap.size 5 i0 Tryz.underlying63 Tryz.underlying9 hi0 hz0 hz1 hz2 _ _ _ rfl HO.out s rfl h63 hby hbase ?_; intro v9 w9 hown9 hg9 hat9; obtain ⟨A9, c9, rfl⟩ := row_form hown9; have hb9 : Bel w w9 := Below.grown HB.out hg9 hbase (fun j e => (HO.out.lt j e).1); have HN9 := Lib.hid (And.intro hown9 hb9); clear hown9 hg9 hat9 hb9)
  go_ret
  exact ⟨A9, c9, rfl, HN9.out.1, HN9.out.2⟩
set_option maxRecDepth 100000 in
set_option maxHeartbeats 2000000 in
theorem r2ReadNumber_any (v : Value) (s : List UInt8) (hs : s.length ≤ 1000000) (w : World) (h : BsAt w v s) : Calls Tryz.prog 132 #[v] w fun e w' => e = .returned (numV (rdNum s)) ∧ w = w' := by
  have HB := Lib.hid h
  obtain ⟨R, hR⟩ : ∃ R, R = rdNum s := ⟨_, rfl⟩
  rw [← hR]
  have HR := Lib.hid hR
  clear hR
  obtain ⟨A, c, rfl, hc, hcm, -⟩ := h
  cases s with
  | nil =>
    have hf : R = none := HR.out
    clear hs hc
    go_enter Tryz.func132, Tryz.ntmps132
    go_wp2
    go_ret3
    exact ⟨by first | rfl | (rw [hf]; rfl), rfl⟩
  | cons hd t =>
    obtain ⟨ad, rfl, p0, -, -⟩ := HB.out.head
    have hcell : w.cell? ad = some (.int .u8 hd.toNat) := p0
    have htl := fun k h0 hk => HB.out.tail k h0 hk
    have hlI : (t.length : Int) ≤ 999999 := by simp at hs; omega
    have hcI : t.length + 1 ≤ c := by simpa using hc
    have hcJ : (t.length : Int) + 1 ≤ c := by omega
    have hz0 : ((t.length : Int) + 1 == 0) = false := by rw [beq_eq_false_iff_ne]; omega
    have HRD : Hid (R = if 8 < hd.toNat ∨ t.length < hd.toNat then none else if needN (numN (t.take hd.toNat)) = hd.toNat then some (numN (t.take hd.toNat), 1 + hd.toNat) else none) := HR.out
    obtain ⟨b, off, spot⟩ := ad
    obtain rfl : spot = none := World.cell?_spot hcell
    have hd256 : hd.toNat ≤ 255 := by have := hd.toNat_lt; omega
    clear p0 hs hc HR HB
    generalize hd.toNat = K at *
    by_cases h8 : 8 < K
    · have hf : R = none := by rw [HRD.out, if_pos (.inl h8)]
      have h8I : (8 : Int) < K := by omega
      go_enter Tryz.func132, Tryz.ntmps132
      go_wp2
      go_ret3
      exact ⟨by first | rfl | (rw [hf]; rfl), rfl⟩
    · have h8b : decide ((8 : Int) < K) = false := by simp; omega
      have h8I : (K : Int) ≤ 8 := by omega
      by_cases hlt : t.length < K
      · have hf : R = none := by rw [HRD.out, if_pos (.inr hlt)]
        have hltI : (t.length : Int) < K := by omega
        go_enter Tryz.func132, Tryz.ntmps132
        go_wp2
        go_ret3
        exact ⟨by first | rfl | (rw [hf]; rfl), rfl⟩
      · have hltb : decide (t.length < K) = false := by simp; omega
        have hKl : K ≤ t.length := by omega
        obtain ⟨s, hs⟩ : ∃ s, s = t.take K := ⟨_, rfl⟩
        have HRS : Hid (R = if needN (numN s) = K then some (numN s, 1 + K) else none) := by show _ = _; rw [HRD.out, if_neg (by omega), hs]
        have hsl : s.length = K := by rw [hs, List.length_take]; omega
        by_cases h0 : K = 0
        · subst h0
          have hs0 : s = [] := List.eq_nil_of_length_eq_zero hsl
          subst hs0
          have hf : R = some (0, 1) := HRS.out
          have HNM := Lib.hid (fun (V : World) (A' : Option Addr) (c' : Nat) => r2read_any [] A' c' (by simp) V ⟨by simp, fun h => by simp at h⟩)
          have hnl : numN [] = 0 := rfl
          rw [hnl] at HNM
          clear hs htl hsl HRD hnl
          by_cases hc1 : c = 1
          · go_enter Tryz.func132, Tryz.ntmps132
            go_wp2_with fail
            refine (HNM.out _ _ _).mono ?_
            rintro e w' ⟨rfl, rfl⟩
            go_wp2
            go_ret3
            exact ⟨by rw [hf]; rfl, rfl⟩
          · go_enter Tryz.func132, Tryz.ntmps132
            go_wp2_with fail
            refine (HNM.out _ _ _).mono ?_
            rintro e w' ⟨rfl, rfl⟩
            go_wp2
            go_ret3
            exact ⟨by rw [hf]; rfl, rfl⟩
        · have hKp : 0 < K := by omega
          have hKpI : (0 : Int) < K := by omega
          obtain ⟨x, xs, hxs⟩ : ∃ x xs, s = x :: xs := by cases s with
            | nil => simp at hsl; omega
            | cons a b => exact ⟨a, b, rfl⟩
          have hr := htl K hKp hKl
          rw [add_free] at hr
          rw [← hs, ← hsl] at hr
          have HNM := Lib.hid (r2read_any s (some ⟨b, off + 1, none⟩) (c - 1) (by omega) w hr)
          have hx1 : w.cell? ⟨b, off + 1, none⟩ = some (.int .u8 x.toNat) := by
            obtain ⟨ad, e, -, hc⟩ := hr.2 (by omega)
            cases e
            have := hc 0 (bv x) (by rw [hxs]; rfl)
            rw [add_free, Nat.add_zero] at this
            exact this
          have hne : needN (numN s) = K ↔ x.toNat ≠ 0 := by
            rw [← hsl, hxs]
            exact need_cons x xs
          have HRX : Hid ((x.toNat = 0 → R = none) ∧ (x.toNat ≠ 0 → R = some (numN s, 1 + K))) := ⟨fun h => by rw [HRS.out, if_neg (fun e => hne.1 e h)], fun h => by rw [HRS.out, if_pos (hne.2 h)]⟩
          clear HRS
          have hxI : (x.toNat : Int) ≤ 255 := by have := x.toNat_lt; omega
          rw [hsl] at HNM
          have hc1 : ¬ c = 1 := by omega
          have hcc : ((c : Int) - 1).toNat = c - 1 := by omega
          clear hs htl hr hsl HRD h0 hlt hne hxs
          generalize numN s = n at *
          generalize x.toNat = X at *
          by_cases hX : X = 0
          · have hf : R = none := HRX.out.1 hX
            have hXb : ((X : Int) == 0) = true := by rw [beq_iff_eq]; omega
            clear hX
            go_enter Tryz.func132, Tryz.ntmps132
            go_wp2
            go_ret3
            exact ⟨by first | rfl | (rw [hf]; rfl), rfl⟩
          · have hf : R = some (n, 1 + K) := HRX.out.2 hX
            have hXb : ((X : Int) == 0) = false := by rw [beq_eq_false_iff_ne]; omega
            clear hX
            go_enter Tryz.func132, Tryz.ntmps132
            go_wp2_with fail
            refine HNM.out.mono ?_
            rintro e w' ⟨rfl, rfl⟩
            go_wp2
            go_ret3
            exact ⟨by rw [hf]; unfold numV; simp, rfl⟩
end Go.Proofs.YtkklmflclmgjeaaGreatDoor

/-
  SchemaHolds, its plain law: what fits a column fits a greater one; a row fits just if each value does; its key is there, and not null.
-/
set_option linter.unusedVariables false
set_option linter.unusedSimpArgs false
set_option linter.unusedVariables false
set_option linter.unusedSimpArgs false
namespace Go.Proofs.YtkklmflclmgjeaaGreatDoor
open Go.RowKit

def wideI (z : Int) : Int := ([1, 2, 4, 4, 8, 8, 8, 8, 8] : List Int).getD (min 8 (max 0 z)).toNat 0

theorem fits_parts {c : Col} {x : Val} (h : fitsI c x = 0) : rightB c = true ∧ checkI x = 0 ∧ (x.k = 0 ∧ c.null = true ∨ x.k ≠ 0 ∧ x.k = c.t ∧ fitB c.t c.z x = true) := by
  unfold fitsI at h
  cases hr : rightB c
  · rw [if_pos hr] at h; cases h
  · rw [if_neg (by simp [hr])] at h
    by_cases hk : checkI x = 0
    · rw [if_neg (by simp [hk])] at h
      refine ⟨rfl, hk, ?_⟩
      by_cases h0 : x.k = 0
      · rw [if_pos h0] at h
        cases hn : c.null
        · simp [hn] at h
        · exact .inl ⟨h0, rfl⟩
      · rw [if_neg h0] at h
        by_cases ht : x.k = c.t
        · rw [if_neg (by simp [ht])] at h
          cases hf : fitB c.t c.z x
          · simp [hf] at h
          · exact .inr ⟨h0, ht, rfl⟩
        · rw [if_pos ht] at h; cases h
    · rw [if_pos hk] at h; exact absurd h hk
def greatZ (t z : Int) : Int := if t = 4 then 200 else if t = 3 then z else wideI z
def Col.great (c : Col) : Col := { c with null := true, z := greatZ c.t c.z }
theorem size_great {t z : Int} (ht : 1 ≤ t ∧ t ≤ 4) (h : sizeB t z = true) : sizeB t (greatZ t z) = true := by
  have hcs : t = 1 ∨ t = 2 ∨ t = 3 ∨ t = 4 := by omega
  rcases hcs with rfl | rfl | rfl | rfl
  · have := of_decide_eq_true h
    rcases this with rfl | rfl | rfl | rfl <;> decide
  · have := of_decide_eq_true h
    rcases this with rfl | rfl | rfl | rfl <;> decide
  · exact h
  · rfl
theorem fit_great {t z : Int} {x : Val} (ht : 1 ≤ t ∧ t ≤ 4) (h : sizeB t z = true) (hf : fitB t z x = true) : fitB t (greatZ t z) x = true := by
  have hcs : t = 1 ∨ t = 2 ∨ t = 3 ∨ t = 4 := by omega
  rcases hcs with rfl | rfl | rfl | rfl
  · have hz := of_decide_eq_true h
    have hf := of_decide_eq_true hf
    refine decide_eq_true ?_
    rcases hz with rfl | rfl | rfl | rfl
    · have e : greatZ 1 1 = 2 := by decide
      rw [e]; have l1 : leastI 1 = -128 := rfl; have l2 : leastI 2 = -32768 := rfl; have l4 : leastI 4 = -2147483648 := rfl; have l8 : leastI 8 = -9223372036854775808 := rfl; omega
    · have e : greatZ 1 2 = 4 := by decide
      rw [e]; have l1 : leastI 1 = -128 := rfl; have l2 : leastI 2 = -32768 := rfl; have l4 : leastI 4 = -2147483648 := rfl; have l8 : leastI 8 = -9223372036854775808 := rfl; omega
    · have e : greatZ 1 4 = 8 := by decide
      rw [e]; have l1 : leastI 1 = -128 := rfl; have l2 : leastI 2 = -32768 := rfl; have l4 : leastI 4 = -2147483648 := rfl; have l8 : leastI 8 = -9223372036854775808 := rfl; omega
    · have e : greatZ 1 8 = 8 := by decide
      rw [e]; exact hf
  · have hz := of_decide_eq_true h
    have hf := of_decide_eq_true hf
    refine decide_eq_true ?_
    rcases hz with rfl | rfl | rfl | rfl
    · have e : greatZ 2 1 = 2 := by decide
      rw [e]; have l1 : mostI 1 = 255 := rfl; have l2 : mostI 2 = 65535 := rfl; have l4 : mostI 4 = 4294967295 := rfl; have l8 : mostI 8 = 18446744073709551615 := rfl; omega
    · have e : greatZ 2 2 = 4 := by decide
      rw [e]; have l1 : mostI 1 = 255 := rfl; have l2 : mostI 2 = 65535 := rfl; have l4 : mostI 4 = 4294967295 := rfl; have l8 : mostI 8 = 18446744073709551615 := rfl; omega
    · have e : greatZ 2 4 = 8 := by decide
      rw [e]; have l1 : mostI 1 = 255 := rfl; have l2 : mostI 2 = 65535 := rfl; have l4 : mostI 4 = 4294967295 := rfl; have l8 : mostI 8 = 18446744073709551615 := rfl; omega
    · have e : greatZ 2 8 = 8 := by decide
      rw [e]; exact hf
  · rfl
  · have hz := of_decide_eq_true h
    have hf := of_decide_eq_true hf
    refine decide_eq_true ?_
    show (x.b.size : Int) ≤ 200
    omega
theorem fits_great {c : Col} {x : Val} (h : fitsI c x = 0) : fitsI c.great x = 0 := by
  obtain ⟨hr, hk, hc⟩ := fits_parts h
  unfold rightB at hr
  rw [Bool.and_eq_true, Bool.and_eq_true] at hr
  obtain ⟨⟨h1, h2⟩, h3⟩ := hr
  have ht := of_decide_eq_true h1
  have hr2 : rightB c.great = true := by
    unfold rightB
    rw [Bool.and_eq_true, Bool.and_eq_true]
    exact ⟨⟨h1, h2⟩, size_great ht h3⟩
  unfold fitsI
  rw [if_neg (by simp [hr2]), if_neg (by simp [hk])]
  rcases hc with ⟨h0, -⟩ | ⟨h0, he, hf⟩
  · rw [if_pos h0]; rfl
  · have hf2 : fitB c.great.t c.great.z x = true := fit_great ht h3 hf
    have he2 : x.k = c.great.t := he
    rw [if_neg h0, if_neg (by simp [← he2]), if_neg (by simp [hf2])]
/-- Do the first k values fit? -/
def allFit (cols : List Col) (l : List Val) (k : Nat) : Bool := decide (l.length = cols.length) && (List.range k).all (fun i => decide (fitAt cols l i = 0))
theorem allFit_zero (cols : List Col) (l : List Val) : allFit cols l 0 = decide (l.length = cols.length) := by unfold allFit; simp
theorem allFit_succ (cols : List Col) (l : List Val) (k : Nat) : allFit cols l (k + 1) = (allFit cols l k && decide (fitAt cols l k = 0)) := by
  unfold allFit
  rw [List.range_succ, List.all_append]
  simp [Bool.and_assoc]
theorem fitAt_at {cols : List Col} {l : List Val} {k : Nat} {c : Col} {x : Val} (hc : cols[k]? = some c) (hx : l[k]? = some x) : fitAt cols l k = fitsI c x := by
  unfold fitAt
  rw [hc, hx]
theorem firstNZ_zero (f : Nat → Int) : ∀ n i, firstNZ f i n = 0 → ∀ j, i ≤ j → j < i + n → f j = 0
  | 0, i, h, j, h1, h2 => by omega
  | n + 1, i, h, j, h1, h2 => by
    unfold firstNZ at h
    by_cases e : f i = 0
    · rw [if_neg (by simp [e])] at h
      by_cases e2 : j = i
      · rw [e2]; exact e
      · exact firstNZ_zero f n (i + 1) h j (by omega) (by omega)
    · rw [if_pos e] at h; exact absurd h e
theorem row_all {cols : List Col} {key : List Int} {uq : List (List Int)} {l : List Val} (hr : rightS cols key uq = true) : (rowAll cols key uq l == 0) = allFit cols l (min l.length cols.length) := by
  unfold rowAll
  rw [if_pos hr]
  unfold rowI allFit
  by_cases hl : l.length = cols.length
  · rw [if_neg (by simp [hl]), decide_eq_true hl, Bool.true_and, hl, Nat.min_self]
    cases ha : (List.range cols.length).all fun i => decide (fitAt cols l i = 0)
    · rw [beq_eq_false_iff_ne]
      intro h
      have := firstNZ_zero _ _ _ h
      rw [List.all_eq_false] at ha
      obtain ⟨i, hi, hn⟩ := ha
      exact hn (decide_eq_true (this i (by omega) (by have := List.mem_range.1 hi; omega)))
    · rw [beq_iff_eq]
      refine firstNZ_none _ _ _ fun j h1 h2 => ?_
      exact of_decide_eq_true (List.all_eq_true.1 ha j (List.mem_range.2 (by omega)))
  · rw [if_pos hl, decide_eq_false hl, Bool.false_and]; rfl
theorem pick_fine {row : List Val} : ∀ {key : List Int}, (∀ i ∈ key, ∃ x, getV row i = some x ∧ x.k ≠ 0) → ∃ l, pickL row key = some l ∧ l.length = key.length ∧ ∀ x ∈ l, x.k ≠ 0
  | [], h => ⟨[], rfl, rfl, fun x hx => by cases hx⟩
  | i :: key, h => by
    obtain ⟨x, hx, h0⟩ := h i List.mem_cons_self
    obtain ⟨l, hl, hn, hk⟩ := pick_fine (key := key) (fun j hj => h j (List.mem_cons_of_mem _ hj))
    refine ⟨x :: l, by rw [pickL_cons, hx, hl], by simp [hn], fun y hy => ?_⟩
    rcases List.mem_cons.1 hy with rfl | hy
    · exact h0
    · exact hk y hy
theorem key_fine {cols : List Col} {key : List Int} {uq : List (List Int)} {l : List Val} (hr : rightS cols key uq = true) (ha : allFit cols l (min l.length cols.length) = true) :
    (pickR l key).2 = 0 ∧ (pickR l key).1.length = key.length ∧ ∀ x ∈ (pickR l key).1, x.k ≠ 0 := by
  unfold allFit at ha
  rw [Bool.and_eq_true] at ha
  obtain ⟨hl, ha⟩ := ha
  have hl := of_decide_eq_true hl
  rw [hl, Nat.min_self] at ha
  unfold rightS at hr
  simp only [Bool.and_eq_true, Bool.not_eq_true'] at hr
  obtain ⟨hd, hs, hc, hn, -⟩ := hr
  have hin := setB_in hs
  obtain ⟨r, h1, h2, h3⟩ := pick_fine (row := l) (key := key) (fun i hi => by
    obtain ⟨h0, hlt⟩ := hin i hi
    have hlc : i.toNat < cols.length := by omega
    obtain ⟨c, hcc⟩ : ∃ c, cols[i.toNat]? = some c := ⟨_, List.getElem?_eq_getElem hlc⟩
    obtain ⟨x, hx⟩ : ∃ x, l[i.toNat]? = some x := ⟨_, List.getElem?_eq_getElem (by omega)⟩
    refine ⟨x, by unfold getV; rw [if_pos h0]; exact hx, fun hk0 => ?_⟩
    have hf := of_decide_eq_true (List.all_eq_true.1 ha i.toNat (List.mem_range.2 hlc))
    rw [fitAt_at hcc hx] at hf
    obtain ⟨-, -, h | h⟩ := fits_parts hf
    · rw [List.any_eq_false] at hn
      have := hn i hi
      unfold nullAt at this
      rw [hcc] at this
      exact this h.2
    · exact h.1 hk0)
  unfold pickR
  rw [h1]
  exact ⟨rfl, h2, h3⟩
end Go.Proofs.YtkklmflclmgjeaaGreatDoor

/-
  The codec, as plain functions: rows' bytes, and the row of bytes; the laws between them.
-/
set_option linter.unusedVariables false
set_option linter.unusedSimpArgs false
set_option linter.unusedVariables false
set_option linter.unusedSimpArgs false
namespace Go.Proofs.YtkklmflclmgjeaaGreatDoor
open Go.RowKit

theorem numN_beN (n k : Nat) : numN (beN n k) = n % 256 ^ k := by
  induction k with
  | zero => simp [beN, numN, Nat.mod_one]
  | succ k ih =>
    rw [beN, numN_cons, beN_length, ih]
    have h1 : (UInt8.ofNat (n / 256 ^ k % 256)).toNat = n / 256 ^ k % 256 := by simp
    rw [h1, Nat.pow_succ, Nat.mod_mul, Nat.mul_comm (n / 256 ^ k % 256)]
    omega
theorem beN_mod (n k : Nat) : beN (n % 256 ^ k) k = beN n k := by
  have : ∀ j, j ≤ k → beN (n % 256 ^ k) j = beN n j := by
    intro j
    induction j with
    | zero => intro _; rfl
    | succ j ih =>
      intro hj
      rw [beN, beN, ih (by omega)]
      congr 2
      obtain ⟨d, rfl⟩ : ∃ d, k = j + 1 + d := ⟨k - (j + 1), by omega⟩
      rw [Nat.pow_add, Nat.pow_succ]
      rw [Nat.mul_assoc, Nat.mod_mul_right_div_self]
      rw [Nat.mod_mul_right_mod]
  exact this k (Nat.le_refl _)
theorem beN_numN (s : List UInt8) : beN (numN s) s.length = s := by
  induction s with
  | nil => rfl
  | cons c s ih =>
    have hlt := numN_lt s
    have h1 : beN (numN (c :: s)) s.length = s := by
      rw [← beN_mod, numN_cons, Nat.mul_comm, Nat.mul_add_mod, Nat.mod_eq_of_lt hlt, ih]
    rw [List.length_cons, beN, h1, numN_cons]
    have h2 : (c.toNat * 256 ^ s.length + numN s) / 256 ^ s.length = c.toNat := by
      rw [Nat.mul_comm, Nat.mul_add_div (Nat.pow_pos (by decide)), Nat.div_eq_of_lt hlt]
      rfl
    rw [h2, Nat.mod_eq_of_lt c.toNat_lt]
    simp
theorem rdNum_enc (n : Nat) (h64 : n < 2 ^ 64) (r : List UInt8) : rdNum (numB n ++ r) = some (n, 1 + needN n) := by
  have h8 := needN_8 h64
  have hto : (UInt8.ofNat (needN n)).toNat = needN n := by simp; omega
  unfold numB
  rw [List.cons_append, rdNum_cons, hto]
  have hl : (beN n (needN n) ++ r).length = needN n + r.length := by rw [List.length_append, beN_length]
  have htk : (beN n (needN n) ++ r).take (needN n) = beN n (needN n) := by
    rw [List.take_append_of_le_length (by rw [beN_length]; exact Nat.le_refl _), List.take_of_length_le (by rw [beN_length]; exact Nat.le_refl _)]
  have hnum : numN (beN n (needN n)) = n := beN_num n _ ((needN_le_iff n _).1 (Nat.le_refl _))
  rw [if_neg (by rw [hl]; omega), htk, hnum, if_pos rfl]
theorem numB_length (n : Nat) : (numB n).length = 1 + needN n := by unfold numB; rw [List.length_cons, beN_length]; omega
theorem rdNum_back {s : List UInt8} {n m : Nat} (h : rdNum s = some (n, m)) : numB n = s.take m := by
  cases s with
  | nil => cases h
  | cons hd t =>
    rw [rdNum_cons] at h
    by_cases hn : 8 < hd.toNat ∨ t.length < hd.toNat
    · rw [if_pos hn] at h; cases h
    · rw [if_neg hn] at h
      by_cases he : needN (numN (t.take hd.toNat)) = hd.toNat
      · rw [if_pos he] at h
        have h := Option.some.inj h
        injection h with h1 h2
        subst h1 h2
        unfold numB
        rw [he, Nat.add_comm, List.take_succ_cons]
        have hl : (t.take hd.toNat).length = hd.toNat := by rw [List.length_take]; omega
        have := beN_numN (t.take hd.toNat)
        rw [hl] at this
        rw [this]
        simp
      · rw [if_neg he] at h; cases h
theorem rdText_enc (s : List UInt8) (hs : s.length ≤ 1000000) (r : List UInt8) : rdText (textB s ++ r) = some (s, (textB s).length) := by
  unfold rdText textB
  rw [List.append_assoc, rdNum_enc s.length (by omega)]
  dsimp only
  have hl : (numB s.length ++ (s ++ r)).length = 1 + needN s.length + (s.length + r.length) := by simp [numB_length]
  rw [hl, if_neg (by omega), List.drop_append_of_le_length (by rw [numB_length]; exact Nat.le_refl _), List.drop_eq_nil_of_le (by rw [numB_length]; exact Nat.le_refl _), List.nil_append, List.take_append_of_le_length (Nat.le_refl _), List.take_length, List.length_append, numB_length]
theorem rdText_back {s x : List UInt8} {m : Nat} (h : rdText s = some (x, m)) : m ≤ s.length ∧ 1 ≤ m ∧ textB x = s.take m ∧ x.length ≤ s.length := by
  unfold rdText at h
  cases hr : rdNum s with
  | none => rw [hr] at h; cases h
  | some p =>
    obtain ⟨n, k⟩ := p
    rw [hr] at h
    dsimp only at h
    obtain ⟨h1, h2, -, -⟩ := rdNum_le hr
    by_cases hc : s.length - k < n
    · rw [if_pos hc] at h; cases h
    · rw [if_neg hc] at h
      have h := Option.some.inj h
      injection h with e1 e2
      subst e1 e2
      have hl : ((s.drop k).take n).length = n := by rw [List.length_take, List.length_drop]; omega
      refine ⟨by omega, by omega, ?_, by rw [hl]; omega⟩
      unfold textB
      rw [hl, rdNum_back hr, List.take_add]
/-- uint64 of a number with a sign. -/
def u64of (n : Int) : Nat := (n % 18446744073709551616).toNat
def encBody (c : Col) (x : Val) : List UInt8 :=
  if c.t = 1 then beN (u64of x.n) c.z.toNat else if c.t = 2 then beN x.u.toNat c.z.toNat else if c.t = 3 then [UInt8.ofNat (u64of x.n % 256)] else textB x.b.data.toList
def encVal (c : Col) (x : Val) : List UInt8 := if x.k = 0 then [0] else 1 :: encBody c x
def encRow : List Col → List Val → List UInt8
  | c :: cs, x :: xs => encVal c x ++ encRow cs xs
  | _, _ => []
def sgnN (n z : Nat) : Int := if 2 * n < 256 ^ z then n else (n : Int) - (256 ^ z : Nat)
def noVal : Val := ⟨0, 0, 0, ⟨#[]⟩⟩
def rdBody (c : Col) (b : List UInt8) : Option (Val × Nat) :=
  if c.t = 1 then (if b.length < c.z.toNat then none else some (⟨1, sgnN (numN (b.take c.z.toNat)) c.z.toNat, 0, ⟨#[]⟩⟩, c.z.toNat))
  else if c.t = 2 then (if b.length < c.z.toNat then none else some (⟨2, 0, numN (b.take c.z.toNat), ⟨#[]⟩⟩, c.z.toNat))
  else if c.t = 3 then (match b with
    | [] => none
    | h :: _ => if 1 < h.toNat then none else some (⟨3, h.toNat, 0, ⟨#[]⟩⟩, 1))
  else match rdText b with
    | some (s, m) => if c.z < s.length then none else some (⟨4, 0, 0, ⟨s.toArray⟩⟩, m)
    | none => none
def rdVal (c : Col) : List UInt8 → Option (Val × Nat)
  | [] => none
  | h :: t => if h.toNat = 1 then (match rdBody c t with
      | some (x, n) => some (x, 1 + n)
      | none => none) else if h.toNat = 0 ∧ c.null = true then some (noVal, 1) else none
def rdRow : List Col → List UInt8 → Option (List Val × Nat)
  | [], _ => some ([], 0)
  | c :: cs, b => match rdVal c b with
    | none => none
    | some (x, n) => match rdRow cs (b.drop n) with
      | none => none
      | some (l, m) => some (x :: l, n + m)
theorem check_parts {x : Val} (h : checkI x = 0) : x = x.bare ∧ mayB x = true ∧ 0 ≤ x.k ∧ x.k ≤ 4 ∧ x.b.size ≤ 200 := by
  unfold checkI at h
  by_cases hc : x.k < 0 ∨ 4 < x.k ∨ x ≠ x.bare ∨ mayB x = false
  · rw [if_pos hc] at h; cases h
  · rw [if_neg hc] at h
    by_cases hz : 200 < x.b.size
    · rw [if_pos hz] at h; cases h
    · refine ⟨Classical.byContradiction fun e => hc (.inr (.inr (.inl e))), ?_, by omega, by omega, by omega⟩
      cases hm : mayB x
      · exact absurd (.inr (.inr (.inr hm))) hc
      · rfl
theorem right_parts {c : Col} (h : rightB c = true) : 1 ≤ c.t ∧ c.t ≤ 4 ∧ namedB c.name = true ∧ sizeB c.t c.z = true := by
  unfold rightB at h
  rw [Bool.and_eq_true, Bool.and_eq_true] at h
  obtain ⟨⟨h1, h2⟩, h3⟩ := h
  have := of_decide_eq_true h1
  exact ⟨this.1, this.2, h2, h3⟩
theorem size_num {t z : Int} (ht : t = 1 ∨ t = 2) (h : sizeB t z = true) : z = 1 ∨ z = 2 ∨ z = 4 ∨ z = 8 := by
  unfold sizeB at h
  rw [if_pos ht] at h
  exact of_decide_eq_true h
end Go.Proofs.YtkklmflclmgjeaaGreatDoor

/-
  The codec's laws, as plain functions: a row is read back from its bytes; the bytes of what was read are these.
-/
set_option linter.unusedVariables false
set_option linter.unusedSimpArgs false
set_option linter.unusedVariables false
set_option linter.unusedSimpArgs false
namespace Go.Proofs.YtkklmflclmgjeaaGreatDoor
open Go.RowKit

theorem bare_1 {x : Val} (hb : x = x.bare) (h : x.k = 1) : x = ⟨1, x.n, 0, ⟨#[]⟩⟩ := by
  conv => lhs; rw [hb]
  unfold Val.bare
  simp [h]
theorem bare_2 {x : Val} (hb : x = x.bare) (h : x.k = 2) : x = ⟨2, 0, x.u, ⟨#[]⟩⟩ := by
  conv => lhs; rw [hb]
  unfold Val.bare
  simp [h]
theorem bare_3 {x : Val} (hb : x = x.bare) (h : x.k = 3) : x = ⟨3, x.n, 0, ⟨#[]⟩⟩ := by
  conv => lhs; rw [hb]
  unfold Val.bare
  simp [h]
theorem bare_4 {x : Val} (hb : x = x.bare) (h : x.k = 4) : x = ⟨4, 0, 0, x.b⟩ := by
  conv => lhs; rw [hb]
  unfold Val.bare
  simp [h]
theorem bare_0 {x : Val} (hb : x = x.bare) (h : x.k = 0) : x = noVal := by
  conv => lhs; rw [hb]
  unfold Val.bare noVal
  simp [h]
theorem sgn_back {n z : Int} (hz : z = 1 ∨ z = 2 ∨ z = 4 ∨ z = 8) (h : fitB 1 z ⟨1, n, 0, ⟨#[]⟩⟩ = true) : sgnN (u64of n % 256 ^ z.toNat) z.toNat = n := by
  have h := of_decide_eq_true h
  have l1 : leastI 1 = -128 := rfl
  have l2 : leastI 2 = -32768 := rfl
  have l4 : leastI 4 = -2147483648 := rfl
  have l8 : leastI 8 = -9223372036854775808 := rfl
  unfold sgnN u64of
  rcases hz with rfl | rfl | rfl | rfl
  · have e : (256 : Nat) ^ (1 : Int).toNat = 256 := by decide
    dsimp only at h
    rw [e]; split <;> omega
  · have e : (256 : Nat) ^ (2 : Int).toNat = 65536 := by decide
    dsimp only at h
    rw [e]; split <;> omega
  · have e : (256 : Nat) ^ (4 : Int).toNat = 4294967296 := by decide
    dsimp only at h
    rw [e]; split <;> omega
  · have e : (256 : Nat) ^ (8 : Int).toNat = 18446744073709551616 := by decide
    dsimp only at h
    rw [e]; split <;> omega
theorem most_lt {u z : Int} (hz : z = 1 ∨ z = 2 ∨ z = 4 ∨ z = 8) (h0 : 0 ≤ u) (h : u ≤ mostI z) : u.toNat < 256 ^ z.toNat := by
  have l1 : mostI 1 = 255 := rfl
  have l2 : mostI 2 = 65535 := rfl
  have l4 : mostI 4 = 4294967295 := rfl
  have l8 : mostI 8 = 18446744073709551615 := rfl
  rcases hz with rfl | rfl | rfl | rfl
  · rw [show (256 : Nat) ^ (1 : Int).toNat = 256 by decide]; omega
  · rw [show (256 : Nat) ^ (2 : Int).toNat = 65536 by decide]; omega
  · rw [show (256 : Nat) ^ (4 : Int).toNat = 4294967296 by decide]; omega
  · rw [show (256 : Nat) ^ (8 : Int).toNat = 18446744073709551616 by decide]; omega
theorem take_pre {a b : List UInt8} {n : Nat} (h : a.length = n) : (a ++ b).take n = a := by
  rw [List.take_append_of_le_length (by omega), List.take_of_length_le (by omega)]
theorem rdBody_enc {c : Col} {x : Val} (hf : fitsI c x = 0) (hw : x.Wf) (h0 : x.k ≠ 0) (r : List UInt8) : rdBody c (encBody c x ++ r) = some (x, (encBody c x).length) := by
  obtain ⟨hr, hk, hc⟩ := fits_parts hf
  obtain ⟨hbare, hmay, hk0, hk4, hsz⟩ := check_parts hk
  obtain ⟨ht1, ht4, hnm, hzz⟩ := right_parts hr
  obtain ⟨hkt, hfit⟩ : x.k = c.t ∧ fitB c.t c.z x = true := by
    rcases hc with ⟨h, -⟩ | ⟨-, h1, h2⟩
    · exact absurd h h0
    · exact ⟨h1, h2⟩
  unfold rdBody encBody
  by_cases t1 : c.t = 1
  · have hz := size_num (.inl t1) hzz
    rw [if_pos t1, if_pos t1]
    have hl : (beN (u64of x.n) c.z.toNat).length = c.z.toNat := beN_length _ _
    have hx := bare_1 hbare (by rw [hkt, t1])
    rw [if_neg (by rw [List.length_append, hl]; omega), take_pre hl, numN_beN, hl]
    have hfit' : fitB 1 c.z x = true := by rw [← t1]; exact hfit
    rw [hx] at hfit'
    have hb := sgn_back (n := x.n) hz hfit'
    rw [hb, ← hx]
  · by_cases t2 : c.t = 2
    · have hz := size_num (.inr t2) hzz
      rw [if_neg t1, if_pos t2, if_neg t1, if_pos t2]
      have hl : (beN x.u.toNat c.z.toNat).length = c.z.toNat := beN_length _ _
      have hx := bare_2 hbare (by rw [hkt, t2])
      have hu : x.u ≤ mostI c.z := by
        rw [t2] at hfit
        exact of_decide_eq_true hfit
      rw [if_neg (by rw [List.length_append, hl]; omega), take_pre hl, numN_beN, hl, Nat.mod_eq_of_lt (most_lt hz hw.u0 hu), Int.toNat_of_nonneg hw.u0, ← hx]
    · by_cases t3 : c.t = 3
      · rw [if_neg t1, if_neg t2, if_pos t3, if_neg t1, if_neg t2, if_pos t3]
        have hx := bare_3 hbare (by rw [hkt, t3])
        have hn : x.n = 0 ∨ x.n = 1 := by
          unfold mayB at hmay
          exact of_decide_eq_true hmay (by rw [hkt, t3])
        have hto : ((UInt8.ofNat (u64of x.n % 256)).toNat : Int) = x.n ∧ (UInt8.ofNat (u64of x.n % 256)).toNat ≤ 1 := by
          have : (UInt8.ofNat (u64of x.n % 256)).toNat = u64of x.n % 256 := by simp
          rw [this]
          unfold u64of
          omega
        show (if 1 < (UInt8.ofNat (u64of x.n % 256)).toNat then none else some ((⟨3, ((UInt8.ofNat (u64of x.n % 256)).toNat : Int), 0, ⟨#[]⟩⟩ : Val), 1)) = some (x, 1)
        rw [if_neg (by omega), hto.1, ← hx]
      · have t4 : c.t = 4 := by omega
        rw [if_neg t1, if_neg t2, if_neg t3, if_neg t1, if_neg t2, if_neg t3]
        have hx := bare_4 hbare (by rw [hkt, t4])
        have hbl : x.b.data.toList.length = x.b.size := rfl
        rw [rdText_enc _ (by rw [hbl]; omega)]
        dsimp only
        have hle : (x.b.size : Int) ≤ c.z := by
          rw [t4] at hfit
          exact of_decide_eq_true hfit
        rw [if_neg (by rw [hbl]; omega)]
        rw [show (⟨x.b.data.toList.toArray⟩ : ByteArray) = x.b by simp, ← hx]
theorem rdVal_cons (c : Col) (h : UInt8) (t : List UInt8) : rdVal c (h :: t) = if h.toNat = 1 then (match rdBody c t with
      | some (x, n) => some (x, 1 + n)
      | none => none) else if h.toNat = 0 ∧ c.null = true then some (noVal, 1) else none := rfl
theorem rdRow_cons (c : Col) (cs : List Col) (b : List UInt8) : rdRow (c :: cs) b = match rdVal c b with
    | none => none
    | some (x, n) => match rdRow cs (b.drop n) with
      | none => none
      | some (l, m) => some (x :: l, n + m) := rfl
theorem rdVal_enc {c : Col} {x : Val} (hf : fitsI c x = 0) (hw : x.Wf) (r : List UInt8) : rdVal c (encVal c x ++ r) = some (x, (encVal c x).length) := by
  unfold encVal
  by_cases h0 : x.k = 0
  · obtain ⟨hr, hk, hc⟩ := fits_parts hf
    obtain ⟨hbare, -, -, -, -⟩ := check_parts hk
    have hn : c.null = true := by
      rcases hc with ⟨-, h⟩ | ⟨h, -⟩
      · exact h
      · exact absurd h0 h
    rw [if_pos h0]
    rw [List.singleton_append, rdVal_cons, if_neg (by decide), if_pos ⟨rfl, hn⟩, ← bare_0 hbare h0]
    rfl
  · rw [if_neg h0]
    rw [List.cons_append, rdVal_cons, if_pos (by decide), rdBody_enc hf hw h0, List.length_cons, Nat.add_comm]
theorem rdRow_enc : ∀ {cols : List Col} {l : List Val} (hl : l.length = cols.length) (hf : ∀ i, i < l.length → fitAt cols l i = 0) (hw : ∀ x ∈ l, x.Wf) (r : List UInt8), rdRow cols (encRow cols l ++ r) = some (l, (encRow cols l).length)
  | [], [], _, _, _, r => rfl
  | [], x :: l, hl, _, _, r => by simp at hl
  | c :: cols, [], hl, _, _, r => by simp at hl
  | c :: cols, x :: l, hl, hf, hw, r => by
    have h0 : fitsI c x = 0 := hf 0 (by simp)
    have hrest := rdRow_enc (cols := cols) (l := l) (by simpa using hl) (fun i hi => hf (i + 1) (by simp; omega)) (fun y hy => hw y (List.mem_cons_of_mem _ hy)) r
    rw [show encRow (c :: cols) (x :: l) = encVal c x ++ encRow cols l from rfl, rdRow_cons]
    rw [List.append_assoc, rdVal_enc h0 (hw x List.mem_cons_self)]
    dsimp only
    rw [List.drop_append_of_le_length (Nat.le_refl _), List.drop_eq_nil_of_le (Nat.le_refl _), List.nil_append, hrest]
    dsimp only
    rw [List.length_append]
theorem fits_intro {c : Col} {x : Val} (hr : rightB c = true) (hk : checkI x = 0) (h : x.k = 0 ∧ c.null = true ∨ x.k ≠ 0 ∧ x.k = c.t ∧ fitB c.t c.z x = true) : fitsI c x = 0 := by
  unfold fitsI
  rw [if_neg (by simp [hr]), if_neg (by simp [hk])]
  rcases h with ⟨h0, hn⟩ | ⟨h0, ht, hf⟩
  · rw [if_pos h0, hn]; rfl
  · rw [if_neg h0, if_neg (by simp [ht]), if_neg (by simp [hf])]
theorem check_intro {x : Val} (h1 : 0 ≤ x.k) (h2 : x.k ≤ 4) (h3 : x = x.bare) (h4 : mayB x = true) (h5 : x.b.size ≤ 200) : checkI x = 0 := by
  unfold checkI
  rw [if_neg (fun h => by
    rcases h with h | h | h | h
    · omega
    · omega
    · exact h h3
    · rw [h4] at h; cases h), if_neg (by omega)]
theorem sgn_fit {z : Int} (hz : z = 1 ∨ z = 2 ∨ z = 4 ∨ z = 8) {m : Nat} (hm : m < 256 ^ z.toNat) : leastI z ≤ sgnN m z.toNat ∧ sgnN m z.toNat ≤ -(leastI z + 1) ∧ u64of (sgnN m z.toNat) % 256 ^ z.toNat = m ∧ -9223372036854775808 ≤ sgnN m z.toNat ∧ sgnN m z.toNat ≤ 9223372036854775807 := by
  have l1 : leastI 1 = -128 := rfl
  have l2 : leastI 2 = -32768 := rfl
  have l4 : leastI 4 = -2147483648 := rfl
  have l8 : leastI 8 = -9223372036854775808 := rfl
  unfold sgnN u64of
  rcases hz with rfl | rfl | rfl | rfl
  · have e : (256 : Nat) ^ (1 : Int).toNat = 256 := by decide
    rw [e] at hm ⊢; split <;> omega
  · have e : (256 : Nat) ^ (2 : Int).toNat = 65536 := by decide
    rw [e] at hm ⊢; split <;> omega
  · have e : (256 : Nat) ^ (4 : Int).toNat = 4294967296 := by decide
    rw [e] at hm ⊢; split <;> omega
  · have e : (256 : Nat) ^ (8 : Int).toNat = 18446744073709551616 := by decide
    rw [e] at hm ⊢; split <;> omega
theorem num_most {z : Int} (hz : z = 1 ∨ z = 2 ∨ z = 4 ∨ z = 8) {m : Nat} (hm : m < 256 ^ z.toNat) : (m : Int) ≤ mostI z ∧ (m : Int) ≤ 18446744073709551615 := by
  have l1 : mostI 1 = 255 := rfl
  have l2 : mostI 2 = 65535 := rfl
  have l4 : mostI 4 = 4294967295 := rfl
  have l8 : mostI 8 = 18446744073709551615 := rfl
  rcases hz with rfl | rfl | rfl | rfl
  · rw [show (256 : Nat) ^ (1 : Int).toNat = 256 by decide] at hm; omega
  · rw [show (256 : Nat) ^ (2 : Int).toNat = 65536 by decide] at hm; omega
  · rw [show (256 : Nat) ^ (4 : Int).toNat = 4294967296 by decide] at hm; omega
  · rw [show (256 : Nat) ^ (8 : Int).toNat = 18446744073709551616 by decide] at hm; omega
theorem rdBody_back {c : Col} {b : List UInt8} {x : Val} {n : Nat} (hr : rightB c = true) (h : rdBody c b = some (x, n)) : n ≤ b.length ∧ x.Wf ∧ fitsI c x = 0 ∧ x.k ≠ 0 ∧ encBody c x = b.take n := by
  obtain ⟨ht1, ht4, hnm, hzz⟩ := right_parts hr
  unfold rdBody at h
  unfold encBody
  by_cases t1 : c.t = 1
  · have hz := size_num (.inl t1) hzz
    rw [if_pos t1] at h
    by_cases hl : b.length < c.z.toNat
    · rw [if_pos hl] at h; cases h
    · rw [if_neg hl] at h
      have h := Option.some.inj h
      injection h with e1 e2
      subst e1 e2
      have hbl : (b.take c.z.toNat).length = c.z.toNat := by rw [List.length_take]; omega
      have hm := numN_lt (b.take c.z.toNat)
      rw [hbl] at hm
      obtain ⟨s1, s2, s3, s4, s5⟩ := sgn_fit hz hm
      refine ⟨by omega, ⟨s4, s5, (by show (0 : Int) ≤ 0; decide), (by show (0 : Int) ≤ 18446744073709551615; decide)⟩, fits_intro hr (check_intro (by show (0 : Int) ≤ 1; decide) (by show (1 : Int) ≤ 4; decide) rfl rfl (by show (0 : Nat) ≤ 200; decide)) (.inr ⟨(by show (1 : Int) ≠ 0; decide), t1.symm, ?_⟩), (by show (1 : Int) ≠ 0; decide), ?_⟩
      · rw [t1]; exact decide_eq_true ⟨s1, s2⟩
      · rw [if_pos t1]
        dsimp only
        rw [← beN_mod, s3]
        have := beN_numN (b.take c.z.toNat)
        rw [hbl] at this
        exact this
  · by_cases t2 : c.t = 2
    · have hz := size_num (.inr t2) hzz
      rw [if_neg t1, if_pos t2] at h
      by_cases hl : b.length < c.z.toNat
      · rw [if_pos hl] at h; cases h
      · rw [if_neg hl] at h
        have h := Option.some.inj h
        injection h with e1 e2
        subst e1 e2
        have hbl : (b.take c.z.toNat).length = c.z.toNat := by rw [List.length_take]; omega
        have hm := numN_lt (b.take c.z.toNat)
        rw [hbl] at hm
        obtain ⟨s1, s2⟩ := num_most hz hm
        refine ⟨by omega, ⟨(by show (-9223372036854775808 : Int) ≤ 0; decide), (by show (0 : Int) ≤ 9223372036854775807; decide), Int.natCast_nonneg _, s2⟩, fits_intro hr (check_intro (by show (0 : Int) ≤ 2; decide) (by show (2 : Int) ≤ 4; decide) rfl rfl (by show (0 : Nat) ≤ 200; decide)) (.inr ⟨(by show (2 : Int) ≠ 0; decide), t2.symm, ?_⟩), (by show (2 : Int) ≠ 0; decide), ?_⟩
        · rw [t2]; exact decide_eq_true s1
        · rw [if_neg t1, if_pos t2]
          dsimp only
          rw [Int.toNat_natCast]
          have := beN_numN (b.take c.z.toNat)
          rw [hbl] at this
          exact this
    · by_cases t3 : c.t = 3
      · rw [if_neg t1, if_neg t2, if_pos t3] at h
        cases b with
        | nil => cases h
        | cons d t =>
          dsimp only at h
          by_cases hd : 1 < d.toNat
          · rw [if_pos hd] at h; cases h
          · rw [if_neg hd] at h
            have h := Option.some.inj h
            injection h with e1 e2
            subst e1 e2
            have hd01 : (d.toNat : Int) = 0 ∨ (d.toNat : Int) = 1 := by omega
            refine ⟨by simp, ⟨by show _ ≤ (d.toNat : Int); omega, by show (d.toNat : Int) ≤ _; omega, (by show (0 : Int) ≤ 0; decide), (by show (0 : Int) ≤ 18446744073709551615; decide)⟩, fits_intro hr (check_intro (by show (0 : Int) ≤ 3; decide) (by show (3 : Int) ≤ 4; decide) rfl (by unfold mayB; exact decide_eq_true (fun _ => hd01)) (by show (0 : Nat) ≤ 200; decide)) (.inr ⟨(by show (3 : Int) ≠ 0; decide), t3.symm, ?_⟩), (by show (3 : Int) ≠ 0; decide), ?_⟩
            · rw [t3]; rfl
            · rw [if_neg t1, if_neg t2, if_pos t3]
              show [UInt8.ofNat (u64of (d.toNat : Int) % 256)] = [d]
              have : u64of (d.toNat : Int) % 256 = d.toNat := by unfold u64of; omega
              rw [this]
              simp
      · have t4 : c.t = 4 := by omega
        rw [if_neg t1, if_neg t2, if_neg t3] at h
        cases hrt : rdText b with
        | none => rw [hrt] at h; cases h
        | some p =>
          obtain ⟨s, m⟩ := p
          rw [hrt] at h
          dsimp only at h
          obtain ⟨b1, b2, b3, b4⟩ := rdText_back hrt
          by_cases hz : c.z < s.length
          · rw [if_pos hz] at h; cases h
          · rw [if_neg hz] at h
            have h := Option.some.inj h
            injection h with e1 e2
            subst e1 e2
            have hzs : c.z ≤ 200 := by
              rw [t4] at hzz
              have := of_decide_eq_true hzz
              omega
            have hsz : (⟨s.toArray⟩ : ByteArray).size = s.length := rfl
            refine ⟨b1, ⟨(by show (-9223372036854775808 : Int) ≤ 0; decide), (by show (0 : Int) ≤ 9223372036854775807; decide), (by show (0 : Int) ≤ 0; decide), (by show (0 : Int) ≤ 18446744073709551615; decide)⟩, fits_intro hr (check_intro (by show (0 : Int) ≤ 4; decide) (by show (4 : Int) ≤ 4; decide) rfl rfl (by show (⟨s.toArray⟩ : ByteArray).size ≤ 200; rw [hsz]; omega)) (.inr ⟨(by show (4 : Int) ≠ 0; decide), t4.symm, ?_⟩), (by show (4 : Int) ≠ 0; decide), ?_⟩
            · rw [t4]; exact decide_eq_true (by rw [hsz]; omega)
            · rw [if_neg t1, if_neg t2, if_neg t3]
              exact b3
theorem rdVal_back {c : Col} {b : List UInt8} {x : Val} {n : Nat} (hr : rightB c = true) (h : rdVal c b = some (x, n)) : 1 ≤ n ∧ n ≤ b.length ∧ x.Wf ∧ fitsI c x = 0 ∧ encVal c x = b.take n := by
  cases b with
  | nil => cases h
  | cons d t =>
    have h : (if d.toNat = 1 then (match rdBody c t with | some (x, n) => some (x, 1 + n) | none => none) else if d.toNat = 0 ∧ c.null = true then some (noVal, 1) else none) = some (x, n) := h
    by_cases h1 : d.toNat = 1
    · rw [if_pos h1] at h
      cases hb : rdBody c t with
      | none => rw [hb] at h; cases h
      | some p =>
        obtain ⟨y, m⟩ := p
        rw [hb] at h
        have h := Option.some.inj h
        injection h with e1 e2
        subst e1 e2
        obtain ⟨g1, g2, g3, g4, g5⟩ := rdBody_back hr hb
        refine ⟨by omega, by simp; omega, g2, g3, ?_⟩
        unfold encVal
        rw [if_neg g4, g5, Nat.add_comm, List.take_succ_cons]
        have : d = 1 := by
          have := congrArg UInt8.ofNat h1
          simpa using this
        rw [this]
    · rw [if_neg h1] at h
      by_cases h0 : d.toNat = 0 ∧ c.null = true
      · rw [if_pos h0] at h
        have h := Option.some.inj h
        injection h with e1 e2
        subst e1 e2
        refine ⟨by decide, by simp, ⟨by decide, by decide, by decide, by decide⟩, fits_intro hr (check_intro (by decide) (by decide) rfl rfl (by decide)) (.inl ⟨rfl, h0.2⟩), ?_⟩
        have : d = 0 := by
          have := congrArg UInt8.ofNat h0.1
          simpa using this
        rw [this]
        rfl
      · rw [if_neg h0] at h; cases h
theorem rdRow_back : ∀ {cols : List Col} {b : List UInt8} {l : List Val} {n : Nat} (hr : ∀ c ∈ cols, rightB c = true) (h : rdRow cols b = some (l, n)), n ≤ b.length ∧ l.length = cols.length ∧ (∀ x ∈ l, x.Wf) ∧ (∀ i, i < l.length → fitAt cols l i = 0) ∧ encRow cols l = b.take n ∧ cols.length ≤ n
  | [], b, l, n, hr, h => by
    have h := Option.some.inj h
    injection h with e1 e2
    subst e1 e2
    exact ⟨Nat.zero_le _, rfl, (fun x hx => by cases hx), (fun i hi => by simp at hi), by simp [encRow], Nat.le_refl _⟩
  | c :: cols, b, l, n, hr, h => by
    have h : (match rdVal c b with | none => none | some (x, n) => match rdRow cols (b.drop n) with | none => none | some (l, m) => some (x :: l, n + m)) = some (l, n) := h
    cases hv : rdVal c b with
    | none => rw [hv] at h; cases h
    | some p =>
      obtain ⟨x, k⟩ := p
      rw [hv] at h
      dsimp only at h
      obtain ⟨v1, v2, v3, v4, v5⟩ := rdVal_back (hr c List.mem_cons_self) hv
      cases hw : rdRow cols (b.drop k) with
      | none => rw [hw] at h; cases h
      | some q =>
        obtain ⟨l', m⟩ := q
        rw [hw] at h
        have h := Option.some.inj h
        injection h with e1 e2
        subst e1 e2
        obtain ⟨r1, r2, r3, r4, r5, r6⟩ := rdRow_back (fun c hc => hr c (List.mem_cons_of_mem _ hc)) hw
        rw [List.length_drop] at r1
        refine ⟨by omega, by simp [r2], fun y hy => ?_, fun i hi => ?_, ?_, by simp; omega⟩
        · rcases List.mem_cons.1 hy with rfl | hy
          · exact v3
          · exact r3 y hy
        · cases i with
          | zero => exact v4
          | succ i => exact r4 i (by simp at hi; omega)
        · show encVal c x ++ encRow cols l' = _
          rw [v5, r5, List.take_add]
end Go.Proofs.YtkklmflclmgjeaaGreatDoor

/-
  The document's octet: ReadText.
-/
set_option linter.unusedVariables false
set_option linter.unusedSimpArgs false
set_option linter.unusedVariables false
set_option linter.unusedSimpArgs false
namespace Go.Proofs.YtkklmflclmgjeaaGreatDoor
open Go.RowKit Go.Lib

set_option maxRecDepth 100000 in
set_option maxHeartbeats 2000000 in
theorem r2ReadText_any (v : Value) (s : List UInt8) (hs : s.length ≤ 1000000) (w : World) (h : BsAt w v s) : Calls Tryz.prog 90 #[v] w fun e w' => e = .returned (textV (rdText s)) ∧ w = w' := by
  have HN := Lib.hid (r2ReadNumber_any v s hs w h)
  have HB := Lib.hid h
  obtain ⟨R, hR⟩ : ∃ R, R = rdText s := ⟨_, rfl⟩
  rw [← hR]
  have HR := Lib.hid hR
  clear hR
  unfold rdText at HR
  obtain ⟨A, c, rfl, hc, hcm, -⟩ := h
  have hlI : (s.length : Int) ≤ 1000000 := by omega
  cases hrd : rdNum s with
  | none =>
    rw [hrd] at HN HR
    have hf : R = none := HR.out
    unfold numV at HN
    clear hrd hc hcm hs
    go_enter Tryz.func90, Tryz.ntmps90
    go_wp2_with fail
    refine HN.out.mono ?_
    rintro e w1 ⟨rfl, rfl⟩
    go_wp2
    go_ret3
    exact ⟨by first | rfl | (rw [hf]; rfl), rfl⟩
  | some p =>
    obtain ⟨n, m⟩ := p
    obtain ⟨hm1, hml, hm9, hn64⟩ := rdNum_le hrd
    rw [hrd] at HN HR
    unfold numV at HN
    have hmI : (m : Int) ≤ s.length := by omega
    have hm1I : (1 : Int) ≤ m := by omega
    have hsub : (s.length : Int) - m = ((s.length - m : Nat) : Int) := by omega
    have hw64 : IntKind.u64.wrap ((s.length : Int) - m) = ((s.length - m : Nat) : Int) := by rw [hsub]; exact wrap_u64 _ (by omega)
    have hnI : (n : Int) ≤ 18446744073709551615 := by omega
    by_cases hgt : s.length - m < n
    · have hf : R = none := by rw [HR.out]; exact if_pos hgt
      have hgI : ((s.length : Int) - m) < n := by omega
      clear hrd hsub hn64 hc hcm hs
      go_enter Tryz.func90, Tryz.ntmps90
      go_wp2_with fail
      refine HN.out.mono ?_
      rintro e w1 ⟨rfl, rfl⟩
      go_wp2
      go_ret3
      exact ⟨by first | rfl | (rw [hf]; rfl), rfl⟩
    · have hf : R = some ((s.drop m).take n, m + n) := by rw [HR.out]; exact if_neg hgt
      have hgb : decide (s.length - m < n) = false := by simp; omega
      have hgI : (n : Int) ≤ (s.length : Int) - m := by omega
      have hne : s ≠ [] := fun e => by rw [e] at hml; simp at hml; omega
      obtain ⟨hd, t, rfl⟩ : ∃ hd t, s = hd :: t := by cases s with
        | nil => exact absurd rfl hne
        | cons a b => exact ⟨a, b, rfl⟩
      obtain ⟨ad, rfl, p0, -, -⟩ := HB.out.head
      obtain ⟨b, off, spot⟩ := ad
      obtain rfl : spot = none := World.cell?_spot p0
      have hrd2 := HB.out.cut m n (by omega)
      obtain ⟨x, hx⟩ : ∃ x, x = ((hd :: t).drop m).take n := ⟨_, rfl⟩
      rw [← hx] at hrd2 hf
      have hxl : x.length = n := by rw [hx, List.length_take, List.length_drop]; omega
      have HCV := Lib.hid (conv_reads (c - m) (s := x) (by rw [hxl]; exact hrd2))
      rw [hxl] at HCV
      have hnk : m + n ≤ (hd :: t).length := by omega
      have HXL := Lib.hid hxl
      clear hrd hsub hn64 hs hne hrd2 hx hxl p0 hgt HR
      have HF := Lib.hid hf
      simp only [List.length_cons] at *
      have hnkI : (m : Int) + n ≤ (t.length : Int) + 1 := by omega
      have htn : ((m : Int) + n).toNat = m + n := by omega
      have htm : ((m : Int) + n - m).toNat = n := by omega
      have hcL : (t.length : Int) + 1 ≤ c := by omega
      have hcL2 : (m : Int) + n ≤ c := by omega
      have hlJ : (t.length : Int) ≤ 999999 := by omega
      clear hf hw64 hnI hlI
      by_cases hn0 : n = 0
      · subst hn0
        have hx0 : x = [] := List.eq_nil_of_length_eq_zero HXL.out
        subst hx0
        have hcv := fun (V : World) (A' : Option Addr) (c' : Nat) => conv_reads (w := V) (B := 0) (A := A') (s := []) c' ⟨rfl, fun h => by simp at h⟩
        simp only [List.length_nil] at hcv
        clear HCV htm htn hnkI hcL2 hgI hgb
        by_cases hcm1 : c = m
        · subst hcm1
          go_enter Tryz.func90, Tryz.ntmps90
          go_wp2_with fail
          refine HN.out.mono ?_
          rintro e w1 ⟨rfl, rfl⟩
          go_wp2
          go_ret3
          exact ⟨by rw [HF.out]; unfold textV; simp, rfl⟩
        · go_enter Tryz.func90, Tryz.ntmps90
          go_wp2_with fail
          refine HN.out.mono ?_
          rintro e w1 ⟨rfl, rfl⟩
          go_wp2
          go_ret3
          exact ⟨by rw [HF.out]; unfold textV; simp, rfl⟩
      · have hnp : (0 : Int) < n := by omega
        have hcm1 : ¬ c = m := by omega
        have hcm3 : ((c : Int) - m).toNat = c - m := by omega
        go_enter Tryz.func90, Tryz.ntmps90
        go_wp2_with fail
        refine HN.out.mono ?_
        rintro e w1 ⟨rfl, rfl⟩
        have hcv := HCV.out
        go_wp2
        go_ret3
        exact ⟨by rw [HF.out]; unfold textV; simp, rfl⟩
end Go.Proofs.YtkklmflclmgjeaaGreatDoor

/-
  The codec: what each type lays.
-/
set_option linter.unusedVariables false
set_option linter.unusedSimpArgs false
set_option linter.unusedVariables false
set_option linter.unusedSimpArgs false
namespace Go.Proofs.YtkklmflclmgjeaaGreatDoor
open Go.RowKit Go.Shelf Go.Lib

def ckV (a b c : Nat) : Value := .agg #[.func (.func a) #[] #[], .func (.func b) #[] #[], .func (.func c) #[] #[]]
def ckE (a b c : Nat) (k : Int) (j : Nat) : MapEntry := { key := .int .i64 k, val := ckV a b c, born := j }
def ckMap : Array MapEntry := #[ckE 109 111 114 1 0, ckE 115 116 114 2 1, ckE 117 118 119 3 2, ckE 120 121 122 4 3]
theorem cdkinds_at (w : World) : Calls Tryz.prog 70 #[] w fun e w' => e = .returned (.map (some w.heap.size)) ∧ w.alloc (.map ckMap 4) = w' := by
  have hmm := @run_makeMap Tryz.prog
  have u1 := run_mapUpdate_fresh (P := Tryz.prog) (T := 113) (K := 42) (E := 112) (k := .i64) Tryz.underlying113 Tryz.underlying42 (es := #[]) (a := 1) rfl 0 (ckV 109 111 114) w
  have u2 := run_mapUpdate_fresh (P := Tryz.prog) (T := 113) (K := 42) (E := 112) (k := .i64) Tryz.underlying113 Tryz.underlying42 (es := #[ckE 109 111 114 1 0]) (a := 2) rfl 1 (ckV 115 116 114) w
  have u3 := run_mapUpdate_fresh (P := Tryz.prog) (T := 113) (K := 42) (E := 112) (k := .i64) Tryz.underlying113 Tryz.underlying42 (es := #[ckE 109 111 114 1 0, ckE 115 116 114 2 1]) (a := 3) rfl 2 (ckV 117 118 119) w
  have u4 := run_mapUpdate_fresh (P := Tryz.prog) (T := 113) (K := 42) (E := 112) (k := .i64) Tryz.underlying113 Tryz.underlying42 (es := #[ckE 109 111 114 1 0, ckE 115 116 114 2 1, ckE 117 118 119 3 2]) (a := 4) rfl 3 (ckV 120 121 122) w
  simp only [List.push_toArray, List.nil_append, List.cons_append, Nat.reduceAdd] at u1 u2 u3 u4
  simp only [ckE, ckV] at u1 u2 u3 u4
  go_enter Tryz.func70, Tryz.ntmps70
  go_wp2
  go_ret
  exact ⟨rfl, rfl⟩
theorem cdkinds_any (w : World) : Calls Tryz.prog 70 #[] w fun e w' => ∃ b, e = .returned (.map (some b)) ∧ w'.heap[b]? = some (.map ckMap 4) ∧ Bel w w' :=
  (cdkinds_at w).mono fun e w' ⟨he, hw⟩ => ⟨_, he, by rw [← hw]; exact World.alloc_heap_new _ _, by rw [← hw]; exact (Bel.refl w).alloc _⟩
def layF : Int → Nat
  | 1 => 109
  | 2 => 115
  | 3 => 117
  | _ => 120
def readF : Int → Nat
  | 1 => 111
  | 2 => 116
  | 3 => 118
  | _ => 121
def widthF : Int → Nat
  | 1 => 114
  | 2 => 114
  | 3 => 119
  | _ => 122
theorem ckLook {t : Int} (h1 : 1 ≤ t) (h4 : t ≤ 4) {b : Nat} {V : World} (hb : V.heap[b]? = some (.map ckMap 4)) :
    (Instr.lookup 113 (.map (some b)) (.int .i64 t) false).run Tryz.prog V = .ok (.agg #[.func (.func (layF t)) #[] #[], .func (.func (readF t)) #[] #[], .func (.func (widthF t)) #[] #[]]) V := by
  have hc : t = 1 ∨ t = 2 ∨ t = 3 ∨ t = 4 := by omega
  rcases hc with rfl | rfl | rfl | rfl
  · exact run_lookup_int (k := .i64) Tryz.underlying113 Tryz.underlying42 (i := 0) rfl hb
  · exact run_lookup_int (k := .i64) Tryz.underlying113 Tryz.underlying42 (i := 1) rfl hb
  · exact run_lookup_int (k := .i64) Tryz.underlying113 Tryz.underlying42 (i := 2) rfl hb
  · exact run_lookup_int (k := .i64) Tryz.underlying113 Tryz.underlying42 (i := 3) rfl hb
theorem shl_shr (n : Nat) (hn : n < 2 ^ 64) (p : Nat) (q : Int) (hq : q = p) (hp : 1 < p) (m : Nat) (hm : m * p = 2 ^ 64) : IntKind.u64.wrap ((n : Int) * q) / q = ((n % m : Nat) : Int) := by
  subst hq
  have h1 : IntKind.u64.wrap ((n : Int) * p) = ((n * p % 2 ^ 64 : Nat) : Int) := by
    simp only [IntKind.wrap, IntKind.bits, IntKind.signed]
    simp
  rw [h1, ← hm, Nat.mul_mod_mul_right, Int.natCast_mul, Int.mul_ediv_cancel _ (by omega)]
set_option maxRecDepth 100000 in
set_option maxHeartbeats 1000000 in
theorem cdfixed_any (n : Nat) (hn : n < 2 ^ 64) (z : Int) (hz : z = 1 ∨ z = 2 ∨ z = 4 ∨ z = 8) (w : World) : Calls Tryz.prog 110 #[.int .u64 n, .int .i64 z] w (GivesB (beN n z.toNat) w) := by
  unfold GivesB
  rw [beN_length]
  rcases hz with rfl | rfl | rfl | rfl
  · have hk := shl_shr n hn 72057594037927936 72057594037927936 rfl (by omega) 256 (by decide)
    have hb := beN_mod n 1
    have HF := Lib.hid (fixed_any (n % 256) 1 (by omega) (by omega) (by omega) (by omega) w)
    unfold GivesFixed at HF
    rw [show (256 : Nat) ^ 1 = 256 from rfl] at hb
    rw [hb] at HF
    clear hb hn
    generalize n % 256 = m at *
    go_enter Tryz.func110, Tryz.ntmps110
    go_wp2_with fail
    refine HF.out.mono ?_
    rintro e w1 ⟨A, c, rfl, hown, hb⟩
    go_wp2
    go_ret
    exact ⟨A, c, rfl, hown, hb⟩
  · have hk := shl_shr n hn 281474976710656 281474976710656 rfl (by omega) 65536 (by decide)
    have hb := beN_mod n 2
    have HF := Lib.hid (fixed_any (n % 65536) 2 (by omega) (by omega) (by omega) (by omega) w)
    unfold GivesFixed at HF
    rw [show (256 : Nat) ^ 2 = 65536 from rfl] at hb
    rw [hb] at HF
    clear hb hn
    generalize n % 65536 = m at *
    go_enter Tryz.func110, Tryz.ntmps110
    go_wp2_with fail
    refine HF.out.mono ?_
    rintro e w1 ⟨A, c, rfl, hown, hb⟩
    go_wp2
    go_ret
    exact ⟨A, c, rfl, hown, hb⟩
  · have hk := shl_shr n hn 4294967296 4294967296 rfl (by omega) 4294967296 (by decide)
    have hb := beN_mod n 4
    have HF := Lib.hid (fixed_any (n % 4294967296) 4 (by omega) (by omega) (by omega) (by omega) w)
    unfold GivesFixed at HF
    rw [show (256 : Nat) ^ 4 = 4294967296 from rfl] at hb
    rw [hb] at HF
    clear hb hn
    generalize n % 4294967296 = m at *
    go_enter Tryz.func110, Tryz.ntmps110
    go_wp2_with fail
    refine HF.out.mono ?_
    rintro e w1 ⟨A, c, rfl, hown, hb⟩
    go_wp2
    go_ret
    exact ⟨A, c, rfl, hown, hb⟩
  · have HF := Lib.hid (fixed_any n 8 hn (by omega) (by omega) (by rw [show (256 : Nat) ^ 8 = 2 ^ 64 by decide]; exact hn) w)
    unfold GivesFixed at HF
    have hnI : (n : Int) ≤ 18446744073709551615 := by omega
    clear hn
    go_enter Tryz.func110, Tryz.ntmps110
    go_wp2_with fail
    refine HF.out.mono ?_
    rintro e w1 ⟨A, c, rfl, hown, hb⟩
    go_wp2
    go_ret
    exact ⟨A, c, rfl, hown, hb⟩
theorem u64of_lt (n : Int) : u64of n < 2 ^ 64 := by unfold u64of; omega
theorem u64of_wrap (n : Int) : IntKind.u64.wrap n = (u64of n : Int) := by
  unfold u64of
  simp only [IntKind.wrap, IntKind.bits, IntKind.signed]
  simp
  omega
set_option maxRecDepth 100000 in
set_option maxHeartbeats 1000000 in
/-- What each type lays of a value that fits. -/
theorem lay_any (c : Col) (x : Val) (hf : fitsI c x = 0) (hw : x.Wf) (h0 : x.k ≠ 0) (w : World) : Calls Tryz.prog (layF c.t) #[c.v, x.v] w (GivesB (encBody c x) w) := by
  obtain ⟨hr, hk, hc⟩ := fits_parts hf
  obtain ⟨hbare, hmay, hk0, hk4, hsz⟩ := check_parts hk
  obtain ⟨ht1, ht4, hnm, hzz⟩ := right_parts hr
  obtain ⟨hkt, hfit⟩ : x.k = c.t ∧ fitB c.t c.z x = true := by
    rcases hc with ⟨h, -⟩ | ⟨-, h1, h2⟩
    · exact absurd h h0
    · exact ⟨h1, h2⟩
  obtain ⟨name, t, z, null⟩ := c
  obtain ⟨k, n, u, b⟩ := x
  dsimp only at *
  obtain ⟨n0, n1, u0, u1⟩ := hw
  dsimp only at n0 n1 u0 u1
  have hcs : t = 1 ∨ t = 2 ∨ t = 3 ∨ t = 4 := by omega
  have hb0 : Bel w ((w.alloc (.cells #[.string name, .int .i64 t, .int .i64 z, .bool null] 44)).alloc (.cells #[.int .i64 k, .int .i64 n, .int .u64 u, .string b] 48)) := ((Bel.refl w).alloc _).alloc _
  unfold Col.v Val.v encBody
  dsimp only
  subst hkt
  rcases hcs with rfl | rfl | rfl | rfl
  · have hz := size_num (.inl rfl) hzz
    have HF := Lib.hid (fun V => cdfixed_any (u64of n) (u64of_lt n) z hz V)
    have hu := u64of_wrap n
    rw [if_pos rfl]
    clear hf hr hk hc hbare hmay hfit hzz hnm hz n0 n1 u0 u1 hsz
    generalize u64of n = m at *
    show Calls Tryz.prog 109 _ w _
    go_enter Tryz.func109, Tryz.ntmps109
    go_wp2_with fail
    refine (HF.out _).mono ?_
    rintro e w1 ⟨A, c, rfl, hown, hb⟩
    go_wp2
    go_ret
    exact ⟨A, c, rfl, ownsRow_base hown hb0.size, hb0.then_ hb⟩
  · have hz := size_num (.inr rfl) hzz
    obtain ⟨m, rfl⟩ := Int.eq_ofNat_of_zero_le u0
    have HF := Lib.hid (fun V => cdfixed_any m (by omega) z hz V)
    rw [if_neg (by decide), if_pos rfl]
    rw [Int.toNat_natCast]
    clear hf hr hk hc hbare hmay hfit hzz hnm hz n0 n1 u0 u1 hsz
    show Calls Tryz.prog 115 _ w _
    go_enter Tryz.func115, Tryz.ntmps115
    go_wp2_with fail
    refine (HF.out _).mono ?_
    rintro e w1 ⟨A, c, rfl, hown, hb⟩
    go_wp2
    go_ret
    exact ⟨A, c, rfl, ownsRow_base hown hb0.size, hb0.then_ hb⟩
  · rw [if_neg (by decide), if_neg (by decide), if_pos rfl]
    have hn : n = 0 ∨ n = 1 := by
      unfold mayB at hmay
      exact of_decide_eq_true hmay rfl
    clear hf hr hk hc hbare hmay hfit hzz hnm n0 n1 u0 u1 hsz hb0
    show Calls Tryz.prog 117 _ w _
    rcases hn with rfl | rfl
    · go_enter Tryz.func117, Tryz.ntmps117
      go_wp2
      go_ret
      exact ⟨_, _, rfl, ⟨rfl, .inr ⟨_, 1, #[.int .u8 0], rfl, (by omega), (by have := World.alloc_heap_new ((w.alloc (.cells #[.string name, .int .i64 3, .int .i64 z, .bool null] 44)).alloc (.cells #[.int .i64 3, .int .i64 0, .int .u64 u, .string b] 48)) (.cells #[.int .u8 0] 5); simpa using this), Nat.le_refl _, by unfold maxLen; omega, rfl, rfl⟩⟩, by (repeat (first | exact Below.refl _ _ | assumption | exact Bel.refl _ | refine Bel.alloc ?_ _ | refine Bel.drew ?_ | refine Bel.drewN ?_ _ | refine Bel.then_ ?_ (by assumption) | refine Bel.setCell ?_ (by first | (simp; done) | (simp; omega)) _))⟩
    · go_enter Tryz.func117, Tryz.ntmps117
      go_wp2
      go_ret
      exact ⟨_, _, rfl, ⟨rfl, .inr ⟨_, 1, #[.int .u8 1], rfl, (by omega), (by have := World.alloc_heap_new ((w.alloc (.cells #[.string name, .int .i64 3, .int .i64 z, .bool null] 44)).alloc (.cells #[.int .i64 3, .int .i64 1, .int .u64 u, .string b] 48)) (.cells #[.int .u8 1] 5); simpa using this), Nat.le_refl _, by unfold maxLen; omega, rfl, rfl⟩⟩, by (repeat (first | exact Below.refl _ _ | assumption | exact Bel.refl _ | refine Bel.alloc ?_ _ | refine Bel.drew ?_ | refine Bel.drewN ?_ _ | refine Bel.then_ ?_ (by assumption) | refine Bel.setCell ?_ (by first | (simp; done) | (simp; omega)) _))⟩
  · rw [if_neg (by decide), if_neg (by decide), if_neg (by decide)]
    have HF := Lib.hid (fun V => oText_any b (by omega) V)
    clear hf hr hk hc hbare hmay hfit hzz hnm n0 n1 u0 u1 hsz
    show Calls Tryz.prog 120 _ w _
    go_enter Tryz.func120, Tryz.ntmps120
    go_wp2_with fail
    refine (HF.out _).mono ?_
    rintro e w1 ⟨A, c, rfl, hown, hb⟩
    go_wp2
    go_ret
    exact ⟨A, c, rfl, ownsRow_base hown hb0.size, hb0.then_ hb⟩
end Go.Proofs.YtkklmflclmgjeaaGreatDoor

/-
  The document: whether lists of values are the same.
-/
set_option linter.unusedVariables false
set_option linter.unusedSimpArgs false
set_option linter.unusedVariables false
set_option linter.unusedSimpArgs false
namespace Go.Proofs.YtkklmflclmgjeaaGreatDoor
open Go.RowKit Go.Shelf Go.Lib
attribute [local go_sem] Oper.semAt_some

theorem vrby_any (t : Bool) (w : World) : Calls Tryz.prog 95 #[.bool t] w fun e w' => (∃ r : Int, e = .returned (.int .i64 r) ∧ r ≠ 0) ∧ w = w' := by
  cases t
  · go_enter Tryz.func95, Tryz.ntmps95
    go_wp2
    go_ret
    exact ⟨⟨1, rfl, by decide⟩, rfl⟩
  · go_enter Tryz.func95, Tryz.ntmps95
    go_wp2
    go_ret
    exact ⟨⟨-1, rfl, by decide⟩, rfl⟩
set_option maxHeartbeats 2000000 in
theorem vrOrder_any (x y : Val) (w : World) : Calls Tryz.prog 94 #[x.v, y.v] w fun e w' => (∃ r : Int, e = .returned (.int .i64 r) ∧ (r = 0 ↔ x = y)) ∧ Bel w w' := by
  obtain ⟨k, n, u, b⟩ := x
  obtain ⟨k', n', u', b'⟩ := y
  unfold Val.v
  dsimp only
  by_cases h1 : k = k'
  · subst h1
    by_cases h2 : n = n'
    · subst h2
      by_cases h3 : u = u'
      · subst h3
        by_cases h4 : b = b'
        · subst h4
          go_enter Tryz.func94, Tryz.ntmps94
          go_wp2_with fail
          go_ret
          exact ⟨⟨0, rfl, by simp⟩, by (repeat (first | exact Below.refl _ _ | assumption | exact Bel.refl _ | refine Bel.alloc ?_ _ | refine Bel.drew ?_ | refine Bel.drewN ?_ _ | refine Bel.then_ ?_ (by assumption) | refine Bel.setCell ?_ (by first | (simp; done) | (simp; omega)) _))⟩
        · have hs : (b.toList == b'.toList) = false := by rw [str_beq]; exact decide_eq_false h4
          have HN : Hid (¬ ((⟨k, n, u, b⟩ : Val) = ⟨k, n, u, b'⟩)) := fun e => h4 (by injection e)
          clear h4
          go_enter Tryz.func94, Tryz.ntmps94
          go_wp2_with (go_at_call 95; refine (vrby_any _ _).mono ?_; rintro e w' ⟨⟨r, rfl, hr⟩, rfl⟩)
          go_ret
          exact ⟨⟨r, rfl, by constructor <;> intro h <;> first | exact absurd h hr | exact absurd h HN.out⟩, by (repeat (first | exact Below.refl _ _ | assumption | exact Bel.refl _ | refine Bel.alloc ?_ _ | refine Bel.drew ?_ | refine Bel.drewN ?_ _ | refine Bel.then_ ?_ (by assumption) | refine Bel.setCell ?_ (by first | (simp; done) | (simp; omega)) _))⟩
      · have hb : (u == u') = false := by rw [beq_eq_false_iff_ne]; exact h3
        have HN : Hid (¬ ((⟨k, n, u, b⟩ : Val) = ⟨k, n, u', b'⟩)) := fun e => h3 (by injection e)
        go_enter Tryz.func94, Tryz.ntmps94
        go_wp2_with (go_at_call 95; refine (vrby_any _ _).mono ?_; rintro e w' ⟨⟨r, rfl, hr⟩, rfl⟩)
        go_ret
        exact ⟨⟨r, rfl, by constructor <;> intro h <;> first | exact absurd h hr | exact absurd h HN.out⟩, by (repeat (first | exact Below.refl _ _ | assumption | exact Bel.refl _ | refine Bel.alloc ?_ _ | refine Bel.drew ?_ | refine Bel.drewN ?_ _ | refine Bel.then_ ?_ (by assumption) | refine Bel.setCell ?_ (by first | (simp; done) | (simp; omega)) _))⟩
    · have hb : (n == n') = false := by rw [beq_eq_false_iff_ne]; exact h2
      have HN : Hid (¬ ((⟨k, n, u, b⟩ : Val) = ⟨k, n', u', b'⟩)) := fun e => h2 (by injection e)
      go_enter Tryz.func94, Tryz.ntmps94
      go_wp2_with (go_at_call 95; refine (vrby_any _ _).mono ?_; rintro e w' ⟨⟨r, rfl, hr⟩, rfl⟩)
      go_ret
      exact ⟨⟨r, rfl, by constructor <;> intro h <;> first | exact absurd h hr | exact absurd h HN.out⟩, by (repeat (first | exact Below.refl _ _ | assumption | exact Bel.refl _ | refine Bel.alloc ?_ _ | refine Bel.drew ?_ | refine Bel.drewN ?_ _ | refine Bel.then_ ?_ (by assumption) | refine Bel.setCell ?_ (by first | (simp; done) | (simp; omega)) _))⟩
  · have hb : (k == k') = false := by rw [beq_eq_false_iff_ne]; exact h1
    have HN : Hid (¬ ((⟨k, n, u, b⟩ : Val) = ⟨k', n', u', b'⟩)) := fun e => h1 (by injection e)
    go_enter Tryz.func94, Tryz.ntmps94
    go_wp2_with (go_at_call 95; refine (vrby_any _ _).mono ?_; rintro e w' ⟨⟨r, rfl, hr⟩, rfl⟩)
    go_ret
    exact ⟨⟨r, rfl, by constructor <;> intro h <;> first | exact absurd h hr | exact absurd h HN.out⟩, by (repeat (first | exact Below.refl _ _ | assumption | exact Bel.refl _ | refine Bel.alloc ?_ _ | refine Bel.drew ?_ | refine Bel.drewN ?_ _ | refine Bel.then_ ?_ (by assumption) | refine Bel.setCell ?_ (by first | (simp; done) | (simp; omega)) _))⟩
set_option maxRecDepth 100000 in
set_option maxHeartbeats 4000000 in
theorem vrLists_any (va vb : Value) (a b : List Val) (w : World) (ha : ValsAt w va a) (hb : ValsAt w vb b) : Calls Tryz.prog 54 #[va, vb] w fun e w' => (∃ r : Int, e = .returned (.int .i64 r) ∧ (r = 0 ↔ a = b)) ∧ Bel w w' := by
  obtain ⟨Aa, ca, rfl, hca, hma, hra⟩ := ha
  obtain ⟨Ab, cb, rfl, hcb, hmb, hrb⟩ := hb
  have haI : (a.length : Int) ≤ 9223372036854775807 := by unfold maxLen at hma; omega
  have hbI : (b.length : Int) ≤ 9223372036854775807 := by unfold maxLen at hmb; omega
  have HRA := Lib.hid hra
  have HRB := Lib.hid hrb
  clear hra hrb hma hmb hca hcb
  go_enter Tryz.func54, Tryz.ntmps54
  go_wp2
  go_loopw [5] (fun i wr => ∃ k : Nat, k ≤ a.length ∧ k ≤ b.length ∧ i = .int .i64 k ∧ Hid (Bel w wr) ∧ Hid (a.take k = b.take k)) (fun i _ => a.length - (intOf i).toNat)
  case atStart => exact ⟨0, Nat.zero_le _, Nat.zero_le _, rfl, Bel.refl w, by show _ = _; simp⟩
  case round =>
    obtain ⟨k, hk, hkb, rfl, HB, HT⟩ := hrel
    by_cases hlt : k < a.length ∧ k < b.length
    · obtain ⟨hla, hlb⟩ := hlt
      obtain ⟨x, hx⟩ : ∃ x, a[k]? = some x := ⟨_, List.getElem?_eq_getElem hla⟩
      obtain ⟨y, hy⟩ : ∃ y, b[k]? = some y := ⟨_, List.getElem?_eq_getElem hlb⟩
      obtain ⟨ba, oa, rfl, hai⟩ := HRA.out (by omega)
      obtain ⟨bb, ob, rfl, hbi⟩ := HRB.out (by omega)
      obtain ⟨q0, q1, q2, q3⟩ := hai k x hx
      obtain ⟨r0, r1, r2, r3⟩ := hbi k y hy
      have hkI : (k : Int) < a.length := by omega
      have hkJ : (k : Int) < b.length := by omega
      have HS : Hid (∀ V, Bel wr V → (fun V : World => V.cell? ⟨ba, oa + k * 4, none⟩ = some (.int .i64 x.k) ∧ V.cell? ⟨ba, oa + k * 4 + 1, none⟩ = some (.int .i64 x.n) ∧ V.cell? ⟨ba, oa + k * 4 + 2, none⟩ = some (.int .u64 x.u) ∧ V.cell? ⟨ba, oa + k * 4 + 3, none⟩ = some (.string x.b) ∧ V.cell? ⟨bb, ob + k * 4, none⟩ = some (.int .i64 y.k) ∧ V.cell? ⟨bb, ob + k * 4 + 1, none⟩ = some (.int .i64 y.n) ∧ V.cell? ⟨bb, ob + k * 4 + 2, none⟩ = some (.int .u64 y.u) ∧ V.cell? ⟨bb, ob + k * 4 + 3, none⟩ = some (.string y.b)) V) := fun V h =>
        ⟨(HB.out.then_ h).c q0, (HB.out.then_ h).c q1, (HB.out.then_ h).c q2, (HB.out.then_ h).c q3, (HB.out.then_ h).c r0, (HB.out.then_ h).c r1, (HB.out.then_ h).c r2, (HB.out.then_ h).c r3⟩
      have HNX : Hid (x = y → a.take (k + 1) = b.take (k + 1)) := fun e => by rw [List.take_add_one, List.take_add_one, hx, hy, HT.out, e]
      have HNO : Hid (¬ x = y → ¬ a = b) := fun e h => e (by rw [h, hy] at hx; exact (Option.some.inj hx).symm)
      have HOR := Lib.hid (fun V => vrOrder_any x y V)
      have HKK : Hid (k + 1 ≤ a.length ∧ k + 1 ≤ b.length) := ⟨hla, hlb⟩
      unfold Val.v at HOR
      clear hx hy hai hbi q0 q1 q2 q3 r0 r1 r2 r3
      go_wp2
      refine wp_region_noPanic ?_
      refine wp_region_held_drew (S := (fun V : World => V.cell? ⟨ba, oa + k * 4, none⟩ = some (.int .i64 x.k) ∧ V.cell? ⟨ba, oa + k * 4 + 1, none⟩ = some (.int .i64 x.n) ∧ V.cell? ⟨ba, oa + k * 4 + 2, none⟩ = some (.int .u64 x.u) ∧ V.cell? ⟨ba, oa + k * 4 + 3, none⟩ = some (.string x.b) ∧ V.cell? ⟨bb, ob + k * 4, none⟩ = some (.int .i64 y.k) ∧ V.cell? ⟨bb, ob + k * 4 + 1, none⟩ = some (.int .i64 y.n) ∧ V.cell? ⟨bb, ob + k * 4 + 2, none⟩ = some (.int .u64 y.u) ∧ V.cell? ⟨bb, ob + k * 4 + 3, none⟩ = some (.string y.b))) (by kernel_rfl) ?_ (fun hHr1_0 => ?_)
      · (try dsimp only); (first | assumption | exact HS.out _ (Bel.refl _).drew | exact HS.out _ (Bel.then_ (Bel.refl _).drew hb7))
      refine wpAnyH_take (i := 0) (oi := _) (v := ?vr1_1_0) rfl (by kernel_rfl) (by kernel_rfl) (by kernel_rfl) ?hqr1_1_0 (Or.inl ⟨by kernel_rfl, ?hyr1_1_0⟩) (by assumption) ?restr1_1_0
      case hqr1_1_0 => exact fun _ _ _ h => h
      case hyr1_1_0 => (intro w hSw; (try dsimp only at hSw); go_simp; try with_reducible rfl)
      try simp only [Act.put, List.getElem_toArray, List.getElem_cons_succ, List.getElem_cons_zero, List.setIfInBounds_toArray, List.set_cons_zero, List.set_cons_succ]
      refine wpAnyH_take (i := 1) (oi := _) (v := ?vr1_1_1) rfl (by kernel_rfl) (by kernel_rfl) (by kernel_rfl) ?hqr1_1_1 (Or.inl ⟨by kernel_rfl, ?hyr1_1_1⟩) (by assumption) ?restr1_1_1
      case hqr1_1_1 => exact fun _ _ _ h => h
      case hyr1_1_1 => (intro w hSw; (try dsimp only at hSw); go_simp; try with_reducible rfl)
      try simp only [Act.put, List.getElem_toArray, List.getElem_cons_succ, List.getElem_cons_zero, List.setIfInBounds_toArray, List.set_cons_zero, List.set_cons_succ]
      refine wpAnyH_take (i := 2) (oi := _) (v := ?vr1_1_2) rfl (by kernel_rfl) (by kernel_rfl) (by kernel_rfl) ?hqr1_1_2 (Or.inl ⟨by kernel_rfl, ?hyr1_1_2⟩) (by assumption) ?restr1_1_2
      case hqr1_1_2 => exact fun _ _ _ h => h
      case hyr1_1_2 => (intro w hSw; (try dsimp only at hSw); go_simp; try with_reducible rfl)
      try simp only [Act.put, List.getElem_toArray, List.getElem_cons_succ, List.getElem_cons_zero, List.setIfInBounds_toArray, List.set_cons_zero, List.set_cons_succ]
      refine wpAnyH_take (i := 3) (oi := _) (v := ?vr1_1_3) rfl (by kernel_rfl) (by kernel_rfl) (by kernel_rfl) ?hqr1_1_3 (Or.inl ⟨by kernel_rfl, ?hyr1_1_3⟩) (by assumption) ?restr1_1_3
      case hqr1_1_3 => exact fun _ _ _ h => h
      case hyr1_1_3 => (intro w hSw; (try dsimp only at hSw); go_simp; try with_reducible rfl)
      try simp only [Act.put, List.getElem_toArray, List.getElem_cons_succ, List.getElem_cons_zero, List.setIfInBounds_toArray, List.set_cons_zero, List.set_cons_succ]
      refine wpAnyH_take (i := 4) (oi := _) (v := ?vr1_1_4) rfl (by kernel_rfl) (by kernel_rfl) (by kernel_rfl) ?hqr1_1_4 (Or.inl ⟨by kernel_rfl, ?hyr1_1_4⟩) (by assumption) ?restr1_1_4
      case hqr1_1_4 => exact fun _ _ _ h => h
      case hyr1_1_4 => (intro w hSw; (try dsimp only at hSw); go_simp; try with_reducible rfl)
      try simp only [Act.put, List.getElem_toArray, List.getElem_cons_succ, List.getElem_cons_zero, List.setIfInBounds_toArray, List.set_cons_zero, List.set_cons_succ]
      refine wpAnyH_take (i := 5) (oi := _) (v := ?vr1_1_5) rfl (by kernel_rfl) (by kernel_rfl) (by kernel_rfl) ?hqr1_1_5 (Or.inl ⟨by kernel_rfl, ?hyr1_1_5⟩) (by assumption) ?restr1_1_5
      case hqr1_1_5 => exact fun _ _ _ h => h
      case hyr1_1_5 => (intro w hSw; (try dsimp only at hSw); go_simp; try with_reducible rfl)
      try simp only [Act.put, List.getElem_toArray, List.getElem_cons_succ, List.getElem_cons_zero, List.setIfInBounds_toArray, List.set_cons_zero, List.set_cons_succ]
      refine wpAnyH_take (i := 6) (oi := _) (v := ?vr1_1_6) rfl (by kernel_rfl) (by kernel_rfl) (by kernel_rfl) ?hqr1_1_6 (Or.inl ⟨by kernel_rfl, ?hyr1_1_6⟩) (by assumption) ?restr1_1_6
      case hqr1_1_6 => exact fun _ _ _ h => h
      case hyr1_1_6 => (intro w hSw; (try dsimp only at hSw); go_simp; try with_reducible rfl)
      try simp only [Act.put, List.getElem_toArray, List.getElem_cons_succ, List.getElem_cons_zero, List.setIfInBounds_toArray, List.set_cons_zero, List.set_cons_succ]
      refine wpAnyH_take (i := 7) (oi := _) (v := ?vr1_1_7) rfl (by kernel_rfl) (by kernel_rfl) (by kernel_rfl) ?hqr1_1_7 (Or.inl ⟨by kernel_rfl, ?hyr1_1_7⟩) (by assumption) ?restr1_1_7
      case hqr1_1_7 => exact fun _ _ _ h => h
      case hyr1_1_7 => (intro w hSw; (try dsimp only at hSw); go_simp; try with_reducible rfl)
      try simp only [Act.put, List.getElem_toArray, List.getElem_cons_succ, List.getElem_cons_zero, List.setIfInBounds_toArray, List.set_cons_zero, List.set_cons_succ]
      refine wpAnyH_ready (rs := [8]) (by kernel_rfl) (by simp) ?_
      refine AllReadyH.cons (o := _) rfl (fun K hK => ?_) AllReadyH.nil
      go_simp
      (go_at_call 94; refine (HOR.out _).mono ?_; rintro e w7 ⟨⟨r, rfl, hr⟩, hb7⟩)
      try (go_wp2_with fail)
      refine hK.out _ _ ?_ (fun hHr1_1 => ?_)
      · (try dsimp only); (first | assumption | exact HS.out _ (Bel.refl _).drew | exact HS.out _ (Bel.then_ (Bel.refl _).drew hb7))
      clear hK K hHr1_0
      try simp only [Act.put, List.getElem_toArray, List.getElem_cons_succ, List.getElem_cons_zero, List.setIfInBounds_toArray, List.set_cons_zero, List.set_cons_succ]
      refine wpAnyH_take (i := 9) (oi := _) (v := ?vr1_1_9) rfl (by kernel_rfl) (by kernel_rfl) (by kernel_rfl) ?hqr1_1_9 (Or.inl ⟨by kernel_rfl, ?hyr1_1_9⟩) (by assumption) ?restr1_1_9
      case hqr1_1_9 => exact fun _ _ _ h => h
      case hyr1_1_9 => (intro w hSw; (try dsimp only at hSw); go_simp; try with_reducible rfl)
      try simp only [Act.put, List.getElem_toArray, List.getElem_cons_succ, List.getElem_cons_zero, List.setIfInBounds_toArray, List.set_cons_zero, List.set_cons_succ]
      refine wpAnyH_done (by kernel_rfl) ?_ _
      refine NoPanic.normal ?_
      have HB7 := Lib.hid (HB.out.then_ ((Bel.refl wr).drew.then_ hb7))
      clear hb7 hHr1_1
      have HRR := Lib.hid hr
      clear hr
      by_cases h0 : r = 0
      · have ht := Lib.hid (HNX.out (HRR.out.1 h0))
        subst h0
        go_wp2
        go_roundw
        case rel => exact ⟨k + 1, HKK.out.1, HKK.out.2, by go_num, HB7.out, ht.out⟩
        case measure => have := HKK.out; simp [intOf]; omega
      · have hkb : (r != 0) = true := by rw [bne_iff_ne]; exact h0
        have hf := Lib.hid (HNO.out (fun e => h0 (HRR.out.2 e)))
        go_wp2
        go_ret
        exact ⟨⟨r, rfl, by constructor <;> intro h <;> first | exact absurd h h0 | exact absurd h hf.out⟩, HB7.out⟩
    · by_cases hab : a.length = b.length
      · have hkE : k = a.length := by omega
        subst hkE
        have HEQ : Hid (a = b) := by show _ = _; have := HT.out; rwa [List.take_length, hab, List.take_length] at this
        have habI : (a.length : Int) = b.length := by omega
        have hl2 : decide ((a.length : Int) < a.length) = false := by simp
        clear hlt HT hk hkb
        rw [habI] at *
        go_wp2
        all_goals
          go_ret
          exact ⟨⟨0, rfl, by constructor <;> intro _ <;> first | exact HEQ.out | rfl⟩, HB.out⟩
      · have HN : Hid (¬ a = b) := fun e => hab (by rw [e])
        have habI : ((a.length : Int) == b.length) = false := by rw [beq_eq_false_iff_ne]; omega
        by_cases hka : k < a.length
        · have hkE : k = b.length := by omega
          subst hkE
          have h1 : (b.length : Int) < a.length := by omega
          go_wp2_with (go_at_call 95; refine (vrby_any _ _).mono ?_; rintro e w' ⟨⟨r, rfl, hr⟩, rfl⟩)
          go_ret
          exact ⟨⟨r, rfl, by constructor <;> intro h <;> first | exact absurd h hr | exact absurd h HN.out⟩, HB.out⟩
        · have hkE : k = a.length := by omega
          subst hkE
          go_wp2_with (go_at_call 95; refine (vrby_any _ _).mono ?_; rintro e w' ⟨⟨r, rfl, hr⟩, rfl⟩)
          go_ret
          exact ⟨⟨r, rfl, by constructor <;> intro h <;> first | exact absurd h hr | exact absurd h HN.out⟩, HB.out⟩
theorem vrSame_any (va vb : Value) (a b : List Val) (w : World) (ha : ValsAt w va a) (hb : ValsAt w vb b) : Calls Tryz.prog 22 #[va, vb] w fun e w' => e = .returned (.bool (decide (a = b))) ∧ Bel w w' := by
  have HL := Lib.hid (vrLists_any va vb a b w ha hb)
  obtain ⟨Aa, ca, rfl, -⟩ := ha
  obtain ⟨Ab, cb, rfl, -⟩ := hb
  obtain ⟨R, hR⟩ : ∃ R, R = decide (a = b) := ⟨_, rfl⟩
  rw [← hR]
  have HR := Lib.hid hR
  clear hR
  go_enter Tryz.func22, Tryz.ntmps22
  go_wp2_with fail
  refine HL.out.mono ?_
  rintro e w' ⟨⟨r, rfl, hr⟩, hb⟩
  have HB := Lib.hid hb
  have HRR : Hid (R = (r == 0)) := by show _ = _; rw [HR.out]; by_cases h : a = b <;> simp [h, hr]
  clear hr hb HL
  go_wp2
  go_ret
  exact ⟨by rw [HRR.out]; rfl, HB.out⟩
end Go.Proofs.YtkklmflclmgjeaaGreatDoor
