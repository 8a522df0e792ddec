/-
  Schema: rows, by the code and by the document.
-/
import Derived.Test.YtkklmflclmgjeaaGreatDoorSn
set_option linter.unusedVariables false
set_option linter.unusedSimpArgs false
set_option linter.unusedVariables false
set_option linter.unusedSimpArgs false
namespace Go.Proofs.YtkklmflclmgjeaaGreatDoor
open Go.RowKit Go.Shelf Go.Lib
attribute [local go_sem] Oper.semAt_some

def rowAll (cols : List Col) (key : List Int) (uq : List (List Int)) (l : List Val) : Int := if rightS cols key uq = true then rowI cols l else 2
set_option maxRecDepth 100000 in
theorem scRow_any (vc vk vu vl : Value) (cols : List Col) (key : List Int) (uq : List (List Int)) (l : List Val) (w : World) (hg : ErrType w) (hc : ColsAt w vc cols) (hk : IntsAt w vk key) (hu : ListsAt w vu uq) (hl : ValsAt w vl l) (hw : ∀ x ∈ l, x.Wf) :
    Calls Tryz.prog 18 #[.agg #[vc, vk, vu], vl] w fun e w' => e = .returned (.int .i64 (rowAll cols key uq l)) ∧ Bel w w' := by
  obtain ⟨R, hR⟩ : ∃ R, R = rowAll cols key uq l := ⟨_, rfl⟩
  rw [← hR]
  have HR := Lib.hid hR
  clear hR
  have HCK := Lib.hid (fun V (hb : Bel w V) => scCheck_any vc vk vu cols key uq V (hc.bel hb) (hk.bel hb) (hu.bel hb))
  have HRW := Lib.hid (fun V (hb : Bel w V) => scrow_any vc vk vu vl cols l V (hc.bel hb) (hl.bel hb) hw)
  have HG := Lib.hid hg
  clear hg hc hk hu hl hw
  cases hr : rightS cols key uq with
  | false =>
    have hf : R = 2 := by rw [HR.out]; unfold rowAll; rw [hr]; rfl
    rw [hr] at HCK
    clear hr
    go_enter Tryz.func18, Tryz.ntmps18
    go_wp2_with (go_at_call 25; refine (HCK.out _ ((Bel.refl w).alloc _)).mono ?_; rintro e w4 ⟨rfl, hb4⟩)
    go_ret
    exact ⟨by rw [hf]; rfl, ((Bel.refl w).alloc _).then_ hb4⟩
  | true =>
    have hf : R = rowI cols l := by rw [HR.out]; unfold rowAll; rw [hr]; rfl
    rw [hr] at HCK
    clear hr HR
    generalize rowI cols l = rr at *
    go_enter Tryz.func18, Tryz.ntmps18
    go_wp2_with (first | (go_at_call 25; refine (HCK.out _ ((Bel.refl w).alloc _)).mono ?_; rintro e w4 ⟨rfl, hb4⟩; have hB4 : Bel w w4 := ((Bel.refl w).alloc _).then_ hb4; have hl0 : w4.cell? ⟨w.heap.size, 0, none⟩ = some vc := hb4.c (by go_simp); have hl1 : w4.cell? ⟨w.heap.size, 1, none⟩ = some vk := hb4.c (by go_simp); have hl2 : w4.cell? ⟨w.heap.size, 2, none⟩ = some vu := hb4.c (by go_simp)) | (go_at_call 53; refine (HRW.out _ hB4).mono ?_; rintro e w5 ⟨v, rfl, hv, hb5⟩; have HN := Lib.hid (rnumber_any (HG.out.bel (hB4.then_ hb5)) hv)) | (go_at_call 52; refine HN.out.mono ?_; rintro e w6 ⟨rfl, hb6⟩))
    go_ret
    exact ⟨by rw [hf]; rfl, (hB4.then_ hb5).then_ hb6⟩
set_option maxRecDepth 100000 in
set_option maxHeartbeats 4000000 in
theorem tRow_any (vc vk vu vl : Value) (cols : List Col) (key : List Int) (uq : List (List Int)) (l : List Val) (w : World) (hc : ColsAt w vc cols) (hk : IntsAt w vk key) (hu : ListsAt w vu uq) (hl : ValsAt w vl l) (hw : ∀ x ∈ l, x.Wf) (hnm : ∀ c ∈ cols, c.name.size ≤ 9223372036854775807) :
    Calls Tryz.prog 19 #[.agg #[vc, vk, vu], vl] w fun e w' => e = .returned (.int .i64 (rowAll cols key uq l)) ∧ Bel w w' := by
  obtain ⟨R, hR⟩ : ∃ R, R = rowAll cols key uq l := ⟨_, rfl⟩
  rw [← hR]
  have HR := Lib.hid hR
  clear hR
  have HRI := Lib.hid (fun V (hb : Bel w V) => tRight_any vc vk vu cols key uq V (hc.bel hb) (hk.bel hb) (hu.bel hb) hnm)
  obtain ⟨Ac, cc, rfl, hcc, hmc, hrc⟩ := hc
  obtain ⟨Al, cl, rfl, hcl, hml, hrl⟩ := hl
  have hnI : (cols.length : Int) ≤ 9223372036854775807 := by unfold maxLen at hmc; omega
  have hlI : (l.length : Int) ≤ 9223372036854775807 := by unfold maxLen at hml; omega
  have HRC := Lib.hid hrc
  have HRL := Lib.hid hrl
  have HWF := Lib.hid hw
  have HNM := Lib.hid hnm
  clear hrc hrl hmc hml hw hnm hk hu
  cases hr : rightS cols key uq with
  | false =>
    have hf : R = 2 := by rw [HR.out]; unfold rowAll; rw [hr]; rfl
    rw [hr] at HRI
    clear hr
    go_enter Tryz.func19, Tryz.ntmps19
    go_wp2_with (go_at_call 31; refine (HRI.out _ ((Bel.refl w).alloc _)).mono ?_; rintro e w4 ⟨rfl, hb4⟩)
    go_ret
    exact ⟨by rw [hf]; rfl, ((Bel.refl w).alloc _).then_ hb4⟩
  | true =>
    have hf : R = rowI cols l := by rw [HR.out]; unfold rowAll; rw [hr]; rfl
    have HF := Lib.hid hf
    rw [hr] at HRI
    clear hr HR hf
    by_cases hlen : l.length = cols.length
    · have hle : ((l.length : Int) != cols.length) = false := by rw [bne_eq_false_iff_eq]; omega
      have HLEN := Lib.hid hlen
      have HRV : Hid (R = firstNZ (fitAt cols l) 0 l.length) := by show _ = _; rw [HF.out]; unfold rowI; rw [if_neg (by simpa using hlen)]
      clear hlen HF
      go_enter Tryz.func19, Tryz.ntmps19
      go_wp2_with (go_at_call 31; refine (HRI.out _ ((Bel.refl w).alloc _)).mono ?_; rintro e w4 ⟨rfl, hb4⟩; have hl0 : w4.cell? ⟨w.heap.size, 0, none⟩ = some (.slice Ac cols.length cc) := hb4.c (by go_simp))
      have HL0 := Lib.hid hl0
      have HW4 := Lib.hid (((Bel.refl w).alloc _).then_ hb4)
      clear hl0 hb4
      go_loopw [5] (fun i wr => ∃ k : Nat, k ≤ l.length ∧ i = .int .i64 k ∧ Hid (Bel w4 wr) ∧ Hid (∀ j, j < k → fitAt cols l j = 0)) (fun i _ => l.length - (intOf i).toNat)
      case atStart => exact ⟨0, Nat.zero_le _, rfl, Bel.refl _, fun j hj => by omega⟩
      case round =>
        obtain ⟨k, hk, rfl, HB, HT⟩ := hrel
        by_cases hlt : k < l.length
        · obtain ⟨y, hy⟩ : ∃ y, l[k]? = some y := ⟨_, List.getElem?_eq_getElem hlt⟩
          obtain ⟨x, hx⟩ : ∃ x, cols[k]? = some x := ⟨_, List.getElem?_eq_getElem (by have := HLEN.out; omega)⟩
          obtain ⟨bl, ol, rfl, hli⟩ := HRL.out (by omega)
          obtain ⟨b, off, rfl, hci⟩ := HRC.out (by have := HLEN.out; omega)
          obtain ⟨q0, q1, q2, q3⟩ := hci k x hx
          obtain ⟨r0, r1, r2, r3⟩ := hli k y hy
          have hbw : Bel w wr := HW4.out.then_ HB.out
          have hkI : (k : Int) < l.length := by omega
          have hkc : (k : Int) < cols.length := by have := HLEN.out; omega
          have hfa : fitAt cols l k = fitsI x y := by unfold fitAt; rw [hx, hy]
          have HNX : Hid (fitsI x y = 0 → ∀ j, j < k + 1 → fitAt cols l j = 0) := fun e j hj => by
            by_cases ej : j = k
            · subst ej; rw [hfa]; exact e
            · exact HT.out j (by omega)
          have HNO : Hid (fitsI x y ≠ 0 → R = fitsI x y) := fun e => by
            rw [HRV.out, firstNZ_hit (fitAt cols l) k (by rw [hfa]; exact e) l.length 0 (Nat.zero_le _) (by omega) (fun j _ h => HT.out j h), hfa]
          have HS : Hid (∀ V, Bel wr V → (fun V : World => V.cell? ⟨w.heap.size, 0, none⟩ = some (.slice (some ⟨b, off, none⟩) cols.length cc) ∧ V.cell? ⟨b, off + k * 4, none⟩ = some (.string x.name) ∧ V.cell? ⟨b, off + k * 4 + 1, none⟩ = some (.int .i64 x.t) ∧ V.cell? ⟨b, off + k * 4 + 2, none⟩ = some (.int .i64 x.z) ∧ V.cell? ⟨b, off + k * 4 + 3, none⟩ = some (.bool x.null) ∧ V.cell? ⟨bl, ol + k * 4, none⟩ = some (.int .i64 y.k) ∧ V.cell? ⟨bl, ol + k * 4 + 1, none⟩ = some (.int .i64 y.n) ∧ V.cell? ⟨bl, ol + k * 4 + 2, none⟩ = some (.int .u64 y.u) ∧ V.cell? ⟨bl, ol + k * 4 + 3, none⟩ = some (.string y.b)) V) := fun V h =>
            ⟨(HB.out.then_ h).c HL0.out, (hbw.then_ h).c q0, (hbw.then_ h).c q1, (hbw.then_ h).c q2, (hbw.then_ h).c q3, (hbw.then_ h).c r0, (hbw.then_ h).c r1, (hbw.then_ h).c r2, (hbw.then_ h).c r3⟩
          have HFI := Lib.hid (fun V => tFits_any x (HNM.out x (List.mem_of_getElem? hx)) y (HWF.out y (List.mem_of_getElem? hy)) V)
          have HLT := Lib.hid hlt
          have HBW := Lib.hid hbw
          unfold Val.v Col.v at HFI
          clear hx hy hci hli q0 q1 q2 q3 r0 r1 r2 r3 hbw hfa
          generalize fitsI x y = fi at *
          go_wp2
          refine wp_region_noPanic ?_
          refine wp_region_held_drew (S := (fun V : World => V.cell? ⟨w.heap.size, 0, none⟩ = some (.slice (some ⟨b, off, none⟩) cols.length cc) ∧ V.cell? ⟨b, off + k * 4, none⟩ = some (.string x.name) ∧ V.cell? ⟨b, off + k * 4 + 1, none⟩ = some (.int .i64 x.t) ∧ V.cell? ⟨b, off + k * 4 + 2, none⟩ = some (.int .i64 x.z) ∧ V.cell? ⟨b, off + k * 4 + 3, none⟩ = some (.bool x.null) ∧ V.cell? ⟨bl, ol + k * 4, none⟩ = some (.int .i64 y.k) ∧ V.cell? ⟨bl, ol + k * 4 + 1, none⟩ = some (.int .i64 y.n) ∧ V.cell? ⟨bl, ol + k * 4 + 2, none⟩ = some (.int .u64 y.u) ∧ V.cell? ⟨bl, ol + k * 4 + 3, none⟩ = some (.string y.b))) (by kernel_rfl) ?_ (fun hHr1_0 => ?_)
          · (try dsimp only); (first | assumption | exact HS.out _ (Bel.refl _).drew | exact HS.out _ (Bel.then_ (Bel.refl _).drew hb7))
          refine wpAnyH_take (i := 0) (oi := _) (v := ?vr1_1_0) rfl (by kernel_rfl) (by kernel_rfl) (by kernel_rfl) ?hqr1_1_0 (Or.inl ⟨by kernel_rfl, ?hyr1_1_0⟩) (by assumption) ?restr1_1_0
          case hqr1_1_0 => exact fun _ _ _ h => h
          case hyr1_1_0 => (intro w hSw; (try dsimp only at hSw); go_simp; try with_reducible rfl)
          try simp only [Act.put, List.getElem_toArray, List.getElem_cons_succ, List.getElem_cons_zero, List.setIfInBounds_toArray, List.set_cons_zero, List.set_cons_succ]
          refine wpAnyH_take (i := 1) (oi := _) (v := ?vr1_1_1) rfl (by kernel_rfl) (by kernel_rfl) (by kernel_rfl) ?hqr1_1_1 (Or.inl ⟨by kernel_rfl, ?hyr1_1_1⟩) (by assumption) ?restr1_1_1
          case hqr1_1_1 => exact fun _ _ _ h => h
          case hyr1_1_1 => (intro w hSw; (try dsimp only at hSw); go_simp; try with_reducible rfl)
          try simp only [Act.put, List.getElem_toArray, List.getElem_cons_succ, List.getElem_cons_zero, List.setIfInBounds_toArray, List.set_cons_zero, List.set_cons_succ]
          refine wpAnyH_take (i := 2) (oi := _) (v := ?vr1_1_2) rfl (by kernel_rfl) (by kernel_rfl) (by kernel_rfl) ?hqr1_1_2 (Or.inl ⟨by kernel_rfl, ?hyr1_1_2⟩) (by assumption) ?restr1_1_2
          case hqr1_1_2 => exact fun _ _ _ h => h
          case hyr1_1_2 => (intro w hSw; (try dsimp only at hSw); go_simp; try with_reducible rfl)
          try simp only [Act.put, List.getElem_toArray, List.getElem_cons_succ, List.getElem_cons_zero, List.setIfInBounds_toArray, List.set_cons_zero, List.set_cons_succ]
          refine wpAnyH_take (i := 3) (oi := _) (v := ?vr1_1_3) rfl (by kernel_rfl) (by kernel_rfl) (by kernel_rfl) ?hqr1_1_3 (Or.inl ⟨by kernel_rfl, ?hyr1_1_3⟩) (by assumption) ?restr1_1_3
          case hqr1_1_3 => exact fun _ _ _ h => h
          case hyr1_1_3 => (intro w hSw; (try dsimp only at hSw); go_simp; try with_reducible rfl)
          try simp only [Act.put, List.getElem_toArray, List.getElem_cons_succ, List.getElem_cons_zero, List.setIfInBounds_toArray, List.set_cons_zero, List.set_cons_succ]
          refine wpAnyH_take (i := 4) (oi := _) (v := ?vr1_1_4) rfl (by kernel_rfl) (by kernel_rfl) (by kernel_rfl) ?hqr1_1_4 (Or.inl ⟨by kernel_rfl, ?hyr1_1_4⟩) (by assumption) ?restr1_1_4
          case hqr1_1_4 => exact fun _ _ _ h => h
          case hyr1_1_4 => (intro w hSw; (try dsimp only at hSw); go_simp; try with_reducible rfl)
          try simp only [Act.put, List.getElem_toArray, List.getElem_cons_succ, List.getElem_cons_zero, List.setIfInBounds_toArray, List.set_cons_zero, List.set_cons_succ]
          refine wpAnyH_take (i := 5) (oi := _) (v := ?vr1_1_5) rfl (by kernel_rfl) (by kernel_rfl) (by kernel_rfl) ?hqr1_1_5 (Or.inl ⟨by kernel_rfl, ?hyr1_1_5⟩) (by assumption) ?restr1_1_5
          case hqr1_1_5 => exact fun _ _ _ h => h
          case hyr1_1_5 => (intro w hSw; (try dsimp only at hSw); go_simp; try with_reducible rfl)
          try simp only [Act.put, List.getElem_toArray, List.getElem_cons_succ, List.getElem_cons_zero, List.setIfInBounds_toArray, List.set_cons_zero, List.set_cons_succ]
          refine wpAnyH_take (i := 6) (oi := _) (v := ?vr1_1_6) rfl (by kernel_rfl) (by kernel_rfl) (by kernel_rfl) ?hqr1_1_6 (Or.inl ⟨by kernel_rfl, ?hyr1_1_6⟩) (by assumption) ?restr1_1_6
          case hqr1_1_6 => exact fun _ _ _ h => h
          case hyr1_1_6 => (intro w hSw; (try dsimp only at hSw); go_simp; try with_reducible rfl)
          try simp only [Act.put, List.getElem_toArray, List.getElem_cons_succ, List.getElem_cons_zero, List.setIfInBounds_toArray, List.set_cons_zero, List.set_cons_succ]
          refine wpAnyH_take (i := 7) (oi := _) (v := ?vr1_1_7) rfl (by kernel_rfl) (by kernel_rfl) (by kernel_rfl) ?hqr1_1_7 (Or.inl ⟨by kernel_rfl, ?hyr1_1_7⟩) (by assumption) ?restr1_1_7
          case hqr1_1_7 => exact fun _ _ _ h => h
          case hyr1_1_7 => (intro w hSw; (try dsimp only at hSw); go_simp; try with_reducible rfl)
          try simp only [Act.put, List.getElem_toArray, List.getElem_cons_succ, List.getElem_cons_zero, List.setIfInBounds_toArray, List.set_cons_zero, List.set_cons_succ]
          refine wpAnyH_take (i := 8) (oi := _) (v := ?vr1_1_8) rfl (by kernel_rfl) (by kernel_rfl) (by kernel_rfl) ?hqr1_1_8 (Or.inl ⟨by kernel_rfl, ?hyr1_1_8⟩) (by assumption) ?restr1_1_8
          case hqr1_1_8 => exact fun _ _ _ h => h
          case hyr1_1_8 => (intro w hSw; (try dsimp only at hSw); go_simp; try with_reducible rfl)
          try simp only [Act.put, List.getElem_toArray, List.getElem_cons_succ, List.getElem_cons_zero, List.setIfInBounds_toArray, List.set_cons_zero, List.set_cons_succ]
          refine wpAnyH_ready (rs := [9]) (by kernel_rfl) (by simp) ?_
          refine AllReadyH.cons (o := _) rfl (fun K hK => ?_) AllReadyH.nil
          go_simp
          (go_at_call 24; refine (HFI.out _).mono ?_; rintro e w7 ⟨rfl, hb7⟩)
          try (go_wp2_with fail)
          refine hK.out _ _ ?_ (fun hHr1_1 => ?_)
          · (try dsimp only); (first | assumption | exact HS.out _ (Bel.refl _).drew | exact HS.out _ (Bel.then_ (Bel.refl _).drew hb7))
          clear hK K hHr1_0
          try simp only [Act.put, List.getElem_toArray, List.getElem_cons_succ, List.getElem_cons_zero, List.setIfInBounds_toArray, List.set_cons_zero, List.set_cons_succ]
          refine wpAnyH_take (i := 10) (oi := _) (v := ?vr1_1_10) rfl (by kernel_rfl) (by kernel_rfl) (by kernel_rfl) ?hqr1_1_10 (Or.inl ⟨by kernel_rfl, ?hyr1_1_10⟩) (by assumption) ?restr1_1_10
          case hqr1_1_10 => exact fun _ _ _ h => h
          case hyr1_1_10 => (intro w hSw; (try dsimp only at hSw); go_simp; try with_reducible rfl)
          try simp only [Act.put, List.getElem_toArray, List.getElem_cons_succ, List.getElem_cons_zero, List.setIfInBounds_toArray, List.set_cons_zero, List.set_cons_succ]
          refine wpAnyH_done (by kernel_rfl) ?_ _
          refine NoPanic.normal ?_
          have HB7 := Lib.hid ((Bel.refl wr).drew.then_ hb7)
          clear hb7 hHr1_1
          by_cases h0 : fi = 0
          · have ht := Lib.hid (HNX.out h0)
            subst h0
            go_wp2
            go_roundw
            case rel => exact ⟨k + 1, HLT.out, by go_num, HB.out.then_ HB7.out, ht.out⟩
            case measure => have := HLT.out; simp [intOf]; omega
          · have hf := HNO.out h0
            have hkb : (fi == 0) = false := by rw [beq_eq_false_iff_ne]; exact h0
            have hkb2 : (fi != 0) = true := by rw [bne_iff_ne]; exact h0
            go_wp2
            go_ret
            exact ⟨by first | rfl | (rw [hf]; rfl), HBW.out.then_ HB7.out⟩
        · obtain rfl : k = l.length := by omega
          have ht : R = 0 := by rw [HRV.out]; exact firstNZ_none _ _ _ (fun j _ h => HT.out j (by omega))
          clear HT hlt hk
          go_wp2
          go_ret
          exact ⟨by first | rfl | (rw [ht]; rfl), HW4.out.then_ HB.out⟩
    · have hle : ((l.length : Int) != cols.length) = true := by rw [bne_iff_ne]; omega
      have hR2 : R = 130 := by rw [HF.out]; unfold rowI; rw [if_pos hlen]
      go_enter Tryz.func19, Tryz.ntmps19
      go_wp2_with (go_at_call 31; refine (HRI.out _ ((Bel.refl w).alloc _)).mono ?_; rintro e w4 ⟨rfl, hb4⟩; have hl0 : w4.cell? ⟨w.heap.size, 0, none⟩ = some (.slice Ac cols.length cc) := hb4.c (by go_simp))
      go_ret
      exact ⟨by rw [hR2]; rfl, ((Bel.refl w).alloc _).then_ hb4⟩
end Go.Proofs.YtkklmflclmgjeaaGreatDoor
