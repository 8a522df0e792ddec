/-
  What CodecHolds reaches beside the base.
-/
import Derived.Test.YtkklmflclmgjeaaGreatDoorP5
/-
  CodecHolds, its walk.
-/
set_option linter.unusedVariables false
set_option linter.unusedSimpArgs false
set_option linter.unusedVariables false
set_option linter.unusedSimpArgs false
namespace Go.Proofs.YtkklmflclmgjeaaGreatDoor
open Go.RowKit Go.Shelf Go.Lib
attribute [local go_sem] Oper.semAt_some

theorem fitsI_range (c : Col) (x : Val) : 0 ≤ fitsI c x ∧ fitsI c x ≤ 1000 := by
  have hk : 0 ≤ checkI x ∧ checkI x ≤ 3 := by
    unfold checkI
    split
    · omega
    · split <;> omega
  unfold fitsI
  split
  · omega
  · split
    · omega
    · split
      · split <;> omega
      · split
        · omega
        · split <;> omega
theorem fitAt_range (cols : List Col) (l : List Val) (i : Nat) : 0 ≤ fitAt cols l i ∧ fitAt cols l i ≤ 1000 := by
  unfold fitAt
  split
  · exact fitsI_range _ _
  · omega
theorem firstNZ_range {f : Nat → Int} (h : ∀ i, 0 ≤ f i ∧ f i ≤ 1000) : ∀ n i, 0 ≤ firstNZ f i n ∧ firstNZ f i n ≤ 1000
  | 0, i => by show (0 : Int) ≤ 0 ∧ (0 : Int) ≤ 1000; omega
  | n + 1, i => by
    unfold firstNZ
    split
    · exact h i
    · exact firstNZ_range h n (i + 1)
theorem rowAll_range (cols : List Col) (key : List Int) (uq : List (List Int)) (l : List Val) : 0 ≤ rowAll cols key uq l ∧ rowAll cols key uq l ≤ 1000 := by
  unfold rowAll
  split
  · unfold rowI
    split
    · omega
    · exact firstNZ_range (fitAt_range cols l) _ _
  · omega
theorem encGives_no (cols : List Col) (key : List Int) (uq : List (List Int)) (l : List Val) : (encGives cols key uq l).2 = rowAll cols key uq l := by
  unfold encGives
  split
  · rename_i h; exact h.symm
  · rfl
theorem enc_some {cols : List Col} {key : List Int} {uq : List (List Int)} {l : List Val} (h : rowAll cols key uq l = 0) : 1 ≤ (encRow cols l).length := by
  obtain ⟨hr, hl, hf⟩ := row_parts h
  obtain ⟨hrc, hl1, hl8⟩ := right_cols hr
  match cols, l, hl, hl1, hrc with
  | c :: cs, x :: l, hl, _, _ =>
    show 1 ≤ (encVal c x ++ encRow cs l).length
    rw [List.length_append]
    have : 1 ≤ (encVal c x).length := by unfold encVal; split <;> simp
    omega
  | c :: cs, [], hl, _, _ => simp at hl
theorem str_ne {a b : List UInt8} (h : a ≠ b) : ((⟨a.toArray⟩ : ByteArray).toList == (⟨b.toArray⟩ : ByteArray).toList) = false := by
  rw [str_beq]
  exact decide_eq_false fun e => h (by
    have := congrArg ByteArray.data e
    simpa using this)
theorem BsAt.pre {w : World} {g o n c : Nat} {s : List UInt8} (h : BsAt w (.slice (some ⟨g, o, none⟩) n c) s) {k : Nat} (hk : k ≤ s.length) : Reads w w.heap.size 1 (some ⟨g, o, none⟩) (s.take k).length ((s.take k).map bv) := by
  obtain ⟨A, c', e, h1, h2, h3⟩ := h
  injection e with e1 e2 e3
  subst e1
  refine ⟨by simp, fun hn => ?_⟩
  rw [List.length_take] at hn
  obtain ⟨ad, ea, hb, hc⟩ := h3.2 (by omega)
  refine ⟨ad, ea, hb, fun j u hu => hc j u ?_⟩
  rw [List.map_take, List.getElem?_take] at hu
  split at hu
  · exact hu
  · cases hu
theorem BsAt.spot {w : World} {v : Value} {s : List UInt8} (h : BsAt w v s) (h1 : 1 ≤ s.length) : ∃ g o c, v = .slice (some ⟨g, o, none⟩) s.length c ∧ s.length ≤ c ∧ c ≤ maxLen := by
  obtain ⟨A, c, e, h2, h3, h4⟩ := h
  obtain ⟨⟨g, o, sp⟩, rfl, hb, hc⟩ := h4.2 (by omega)
  obtain ⟨u, hu⟩ : ∃ u, (s.map bv)[0]? = some u := ⟨_, List.getElem?_eq_getElem (by simp; omega)⟩
  have h0 : w.cell? (Addr.add ⟨g, o, sp⟩ 0) = some u := hc 0 u hu
  obtain rfl : sp = none := World.cell?_spot h0
  exact ⟨g, o, c, e, h2, h3⟩
set_option maxRecDepth 100000 in
set_option maxHeartbeats 8000000 in
theorem kHolds_any (vc vk vu va vb : Value) (cols : List Col) (key : List Int) (uq : List (List Int)) (a b : List Val) (w : World) (hg : ErrType w) (hc : ColsAt w vc cols) (hk : IntsAt w vk key) (hu : ListsAt w vu uq) (ha : ValsAt w va a) (hb : ValsAt w vb b)
    (hnm : ∀ c ∈ cols, c.name.size ≤ maxLen) (hwa : ∀ x ∈ a, x.Wf) (hsa : ∀ x ∈ a, x.b.size ≤ maxLen) (hwb : ∀ x ∈ b, x.Wf) (hsb : ∀ x ∈ b, x.b.size ≤ maxLen) : Calls Tryz.prog 11 #[.agg #[vc, vk, vu], va, vb] w fun e w' => e = .returned (.bool true) ∧ Bel w w' := by
  have hb0 : Bel w (w.alloc (.cells #[vc, vk, vu] 26)) := (Bel.refl w).alloc _
  have HFW := Lib.hid (fun V (hb : Bel w V) => kfew_any vc vk vu cols key uq V (hc.bel hb) (hk.bel hb) (hu.bel hb) hnm)
  have HSA := Lib.hid (fun V (h : Bel w V) => kshort_any va a V (ha.bel h) hsa)
  have HSB := Lib.hid (fun V (h : Bel w V) => kshort_any vb b V (hb.bel h) hsb)
  have HW := Lib.hid (fun V (hb : Bel w V) => kworks_any V (hg.bel hb))
  have HCL : Hid (∀ V, Bel (w.alloc (.cells #[vc, vk, vu] 26)) V → V.cell? ⟨w.heap.size, 0, none⟩ = some vc ∧ V.cell? ⟨w.heap.size, 1, none⟩ = some vk ∧ V.cell? ⟨w.heap.size, 2, none⟩ = some vu) := fun V h => ⟨h.c (by go_simp), h.c (by go_simp), h.c (by go_simp)⟩
  have HEA := Lib.hid (fun (hm : a.length ≤ 1000) V (h : Bel w V) => cdEncode_any vc vk vu va cols key uq a V (hg.bel h) (hc.bel h) (hk.bel h) (hu.bel h) (ha.bel h) hwa hm)
  have HEB := Lib.hid (fun (hm : b.length ≤ 1000) V (h : Bel w V) => cdEncode_any vc vk vu vb cols key uq b V (hg.bel h) (hc.bel h) (hk.bel h) (hu.bel h) (hb.bel h) hwb hm)
  have HSM := Lib.hid (fun V (h : Bel w V) => vrSame_any va vb a b V (ha.bel h) (hb.bel h))
  have HGA : Hid (rowAll cols key uq a = 0 → (encGives cols key uq a).1 = encRow cols a ∧ 1 ≤ (encRow cols a).length) := fun h => ⟨by unfold encGives; rw [if_pos h], enc_some h⟩
  have HGB : Hid (rowAll cols key uq b = 0 → (encGives cols key uq b).1 = encRow cols b ∧ 1 ≤ (encRow cols b).length) := fun h => ⟨by unfold encGives; rw [if_pos h], enc_some h⟩
  have HPRE : Hid (rowAll cols key uq a = 0 → rowAll cols key uq b = 0 → ∀ r, encRow cols b = encRow cols a ++ r → a = b) := fun h1 h2 r h => enc_pre h1 h2 hwa hwb h
  have hra := rowAll_range cols key uq a
  have hrb := rowAll_range cols key uq b
  rw [← encGives_no] at hra hrb HGA HGB HPRE
  rw [← encGives_no cols key uq b] at HPRE
  obtain ⟨Aa, ca0, rfl, -⟩ := id ha
  obtain ⟨Ab, cb0, rfl, -⟩ := id hb
  have hlm : ∀ l, shortB l = true → l.length ≤ 12 := fun l h => by
    unfold shortB at h
    rw [Bool.and_eq_true] at h
    exact of_decide_eq_true h.1
  clear hg hc hk hu ha hb hnm hwa hsa hwb hsb
  cases hf : fewB cols key uq
  · rw [hf] at HFW
    clear hf hra hrb hlm
    go_enter Tryz.func11, Tryz.ntmps11
    go_wp2_with (first | (go_at_call 34; refine (HFW.out _ hb0).mono ?_; rintro e w4 ⟨rfl, hb4⟩) | (go_at_call 36; refine (HW.out _ (hb0.then_ hb4)).mono ?_; rintro e w9 ⟨rfl, hb9⟩))
    go_ret
    exact ⟨rfl, (hb0.then_ hb4).then_ hb9⟩
  · rw [hf] at HFW
    clear hf
    cases hs : shortB a
    · rw [hs] at HSA
      clear hs hra hrb hlm
      go_enter Tryz.func11, Tryz.ntmps11
      go_wp2_with (first | (go_at_call 34; refine (HFW.out _ hb0).mono ?_; rintro e w4 ⟨rfl, hb4⟩) | (go_at_call 35; refine (HSA.out _ (hb0.then_ hb4)).mono ?_; rintro e w' ⟨rfl, rfl⟩) | (go_at_call 36; refine (HW.out _ (hb0.then_ hb4)).mono ?_; rintro e w9 ⟨rfl, hb9⟩))
      go_ret
      exact ⟨rfl, (hb0.then_ hb4).then_ hb9⟩
    · have hla := hlm a hs
      rw [hs] at HSA
      clear hs
      cases hs : shortB b
      · rw [hs] at HSB
        clear hs hra hrb hlm hla
        go_enter Tryz.func11, Tryz.ntmps11
        go_wp2_with (go_at_call 34; refine (HFW.out _ hb0).mono ?_; rintro e w4 ⟨rfl, hb4⟩)
        refine (HSA.out _ (hb0.then_ hb4)).mono ?_
        rintro e w' ⟨rfl, rfl⟩
        go_wp2_with fail
        refine (HSB.out _ (hb0.then_ hb4)).mono ?_
        rintro e w' ⟨rfl, rfl⟩
        go_wp2_with (go_at_call 36; refine (HW.out _ (hb0.then_ hb4)).mono ?_; rintro e w9 ⟨rfl, hb9⟩)
        go_ret
        exact ⟨rfl, (hb0.then_ hb4).then_ hb9⟩
      · have hlb := hlm b hs
        rw [hs] at HSB
        clear hs hlm
        have HEA := Lib.hid (HEA.out (by omega))
        have HEB := Lib.hid (HEB.out (by omega))
        obtain ⟨sa, na, hEa⟩ : ∃ x y, encGives cols key uq a = (x, y) := ⟨_, _, rfl⟩
        obtain ⟨sb, nb, hEb⟩ : ∃ x y, encGives cols key uq b = (x, y) := ⟨_, _, rfl⟩
        rw [hEa] at HEA HGA hra HPRE
        rw [hEb] at HEB HGB hrb HPRE
        dsimp only at HEA HEB HGA HGB HPRE hra hrb
        clear hEa hEb hla hlb
        have hwr : IntKind.i64.wrap (na + nb) = na + nb := by
          simp only [IntKind.wrap, IntKind.bits, IntKind.signed]
          simp
          omega
        go_enter Tryz.func11, Tryz.ntmps11
        go_wp2_with (go_at_call 34; refine (HFW.out _ hb0).mono ?_; rintro e w4 ⟨rfl, hb4⟩; obtain ⟨q0, q1, q2⟩ := HCL.out w4 hb4)
        refine (HSA.out _ (hb0.then_ hb4)).mono ?_
        rintro e w' ⟨rfl, rfl⟩
        go_wp2_with fail
        refine (HSB.out _ (hb0.then_ hb4)).mono ?_
        rintro e w' ⟨rfl, rfl⟩
        go_wp2_with fail
        refine (HEA.out _ (hb0.then_ hb4)).mono ?_
        rintro e w5 ⟨v5, rfl, hv5, hb5⟩
        obtain ⟨q0, q1, q2⟩ := HCL.out w5 (hb4.then_ hb5)
        have HB5 := Lib.hid (hb4.then_ hb5)
        clear hb4 hb5 HFW HSA HSB HEA
        have HV5 := Lib.hid hv5
        clear hv5
        go_wp2_with fail
        refine (HEB.out _ (hb0.then_ HB5.out)).mono ?_
        rintro e w6 ⟨v6, rfl, hv6, hb6⟩
        have HV6 := Lib.hid hv6
        have HB6 := Lib.hid hb6
        have HX6 := Lib.hid ((hb0.then_ HB5.out).then_ hb6)
        clear hb6 HEB hv6 hb0
        by_cases hn : na + nb = 0
        · obtain rfl : na = 0 := by omega
          obtain rfl : nb = 0 := by omega
          obtain ⟨e1, hl1⟩ := HGA.out rfl
          obtain ⟨e2, hl2⟩ := HGB.out rfl
          have HPR := HPRE.out rfl rfl
          rw [← e1] at hl1 HPR
          rw [← e2] at hl2 HPR
          have hEQ : a = b → sa = sb := fun h => by rw [e1, e2, h]
          clear hn hra hrb HGA HGB HPRE hwr e1 e2
          obtain ⟨ga, oa, ca, rfl, hna, hma⟩ := HV5.out.spot hl1
          obtain ⟨gb, ob, cb, rfl, hnb, hmb⟩ := HV6.out.spot hl2
          go_wp2_with (first | (go_at_call 41; refine (knum_any _ _).mono ?_; rintro e w' ⟨rfl, rfl⟩) | (go_at_call 22; refine (HSM.out _ HX6.out).mono ?_; rintro e w8 ⟨rfl, hb8⟩))
          obtain ⟨SA, hSA⟩ : ∃ x : ByteArray, x = ⟨sa.toArray⟩ := ⟨_, rfl⟩
          obtain ⟨SB, hSB⟩ : ∃ x : ByteArray, x = ⟨sb.toArray⟩ := ⟨_, rfl⟩
          obtain ⟨SC, hSC⟩ : ∃ x : ByteArray, x = ⟨(sb.take sa.length).toArray⟩ := ⟨_, rfl⟩
          have HS : Hid (∀ V, Bel w8 V → (fun V : World => Bel w8 V ∧ (convert 63 9 (.slice (some ⟨ga, oa, none⟩) sa.length ca)).run Tryz.prog V = .ok (.string SA) V ∧ (convert 63 9 (.slice (some ⟨gb, ob, none⟩) sb.length cb)).run Tryz.prog V = .ok (.string SB) V ∧ (sa.length ≤ sb.length → (convert 63 9 (.slice (some ⟨gb, ob, none⟩) sa.length cb)).run Tryz.prog V = .ok (.string SC) V)) V) := fun V h => by
            have r5 := (HV5.out.bel HB6.out).bel (hb8.then_ h)
            have r6 := HV6.out.bel (hb8.then_ h)
            refine ⟨h, ?_, ?_, fun hle => ?_⟩
            · rw [hSA]
              have := r5.pre (Nat.le_refl _)
              rw [List.take_length] at this
              exact conv_reads (s := sa) _ this
            · rw [hSB]
              have := r6.pre (Nat.le_refl _)
              rw [List.take_length] at this
              exact conv_reads (s := sb) _ this
            · rw [hSC]
              have h2 := conv_reads (s := sb.take sa.length) cb (r6.pre hle)
              rw [show (sb.take sa.length).length = sa.length by rw [List.length_take]; omega] at h2
              exact h2
          have HB8 := Lib.hid (HX6.out.then_ hb8)
          have hcb : ¬ cb = 0 := by omega
          have hcbI : (sb.length : Int) ≤ cb := by omega
          have hcbJ : (cb : Int) ≤ 9223372036854775807 := by unfold maxLen at hmb; omega
          clear HV5 HV6 HB5 HB6 HX6 hb8 HSM HEA HEB hna hma hnb hmb
          by_cases hab : a = b
          · obtain rfl : sa = sb := hEQ hab
            obtain rfl : SA = SB := hSA.trans hSB.symm
            rw [decide_eq_true hab]
            have hle : (sa.length : Int) ≤ cb := hcbI
            clear HPR hEQ hSA hSB hSC hab
            refine wp_region_noPanic ?_
            refine wp_region_held_drew (S := (fun V : World => Bel w8 V ∧ (convert 63 9 (.slice (some ⟨ga, oa, none⟩) sa.length ca)).run Tryz.prog V = .ok (.string SA) V ∧ (convert 63 9 (.slice (some ⟨gb, ob, none⟩) sa.length cb)).run Tryz.prog V = .ok (.string SA) V ∧ (sa.length ≤ sa.length → (convert 63 9 (.slice (some ⟨gb, ob, none⟩) sa.length cb)).run Tryz.prog V = .ok (.string SC) V))) (by kernel_rfl) ?_ (fun hHr1_0 => ?_)
            · (try dsimp only); (first | assumption | exact HS.out _ (Bel.refl w8).drew | exact HS.out _ ((And.left (by assumption) : Bel w8 _).then_ hb11))
            refine wpAnyH_take (i := 0) (oi := _) (v := ?vr1_1_0) rfl (by kernel_rfl) (by kernel_rfl) (by kernel_rfl) ?hqr1_1_0 (Or.inl ⟨by kernel_rfl, ?hyr1_1_0⟩) (by assumption) ?restr1_1_0
            case hqr1_1_0 => exact fun _ _ _ h => h
            case hyr1_1_0 => (intro w hSw; (try dsimp only at hSw); go_simp; try with_reducible rfl)
            try simp only [Act.put, List.getElem_toArray, List.getElem_cons_succ, List.getElem_cons_zero, List.setIfInBounds_toArray, List.set_cons_zero, List.set_cons_succ]
            refine wpAnyH_take (i := 1) (oi := _) (v := ?vr1_1_1) rfl (by kernel_rfl) (by kernel_rfl) (by kernel_rfl) ?hqr1_1_1 (Or.inl ⟨by kernel_rfl, ?hyr1_1_1⟩) (by assumption) ?restr1_1_1
            case hqr1_1_1 => exact fun _ _ _ h => h
            case hyr1_1_1 => (intro w hSw; (try dsimp only at hSw); go_simp; try with_reducible rfl)
            try simp only [Act.put, List.getElem_toArray, List.getElem_cons_succ, List.getElem_cons_zero, List.setIfInBounds_toArray, List.set_cons_zero, List.set_cons_succ]
            refine wpAnyH_take (i := 2) (oi := _) (v := ?vr1_1_2) rfl (by kernel_rfl) (by kernel_rfl) (by kernel_rfl) ?hqr1_1_2 (Or.inl ⟨by kernel_rfl, ?hyr1_1_2⟩) (by assumption) ?restr1_1_2
            case hqr1_1_2 => exact fun _ _ _ h => h
            case hyr1_1_2 => (intro w hSw; (try dsimp only at hSw); go_simp; try with_reducible rfl)
            try simp only [Act.put, List.getElem_toArray, List.getElem_cons_succ, List.getElem_cons_zero, List.setIfInBounds_toArray, List.set_cons_zero, List.set_cons_succ]
            refine wpAnyH_take (i := 3) (oi := _) (v := ?vr1_1_3) rfl (by kernel_rfl) (by kernel_rfl) (by kernel_rfl) ?hqr1_1_3 (Or.inl ⟨by kernel_rfl, ?hyr1_1_3⟩) (by assumption) ?restr1_1_3
            case hqr1_1_3 => exact fun _ _ _ h => h
            case hyr1_1_3 => (intro w hSw; (try dsimp only at hSw); go_simp; try with_reducible rfl)
            try simp only [Act.put, List.getElem_toArray, List.getElem_cons_succ, List.getElem_cons_zero, List.setIfInBounds_toArray, List.set_cons_zero, List.set_cons_succ]
            refine wpAnyH_take (i := 4) (oi := _) (v := ?vr1_1_4) rfl (by kernel_rfl) (by kernel_rfl) (by kernel_rfl) ?hqr1_1_4 (Or.inl ⟨by kernel_rfl, ?hyr1_1_4⟩) (by assumption) ?restr1_1_4
            case hqr1_1_4 => exact fun _ _ _ h => h
            case hyr1_1_4 => (intro w hSw; (try dsimp only at hSw); go_simp; try with_reducible rfl)
            try simp only [Act.put, List.getElem_toArray, List.getElem_cons_succ, List.getElem_cons_zero, List.setIfInBounds_toArray, List.set_cons_zero, List.set_cons_succ]
            refine wpAnyH_take (i := 5) (oi := _) (v := ?vr1_1_5) rfl (by kernel_rfl) (by kernel_rfl) (by kernel_rfl) ?hqr1_1_5 (Or.inl ⟨by kernel_rfl, ?hyr1_1_5⟩) (by assumption) ?restr1_1_5
            case hqr1_1_5 => exact fun _ _ _ h => h
            case hyr1_1_5 => (intro w hSw; (try dsimp only at hSw); go_simp; try with_reducible rfl)
            try simp only [Act.put, List.getElem_toArray, List.getElem_cons_succ, List.getElem_cons_zero, List.setIfInBounds_toArray, List.set_cons_zero, List.set_cons_succ]
            refine wpAnyH_take (i := 6) (oi := _) (v := ?vr1_1_6) rfl (by kernel_rfl) (by kernel_rfl) (by kernel_rfl) ?hqr1_1_6 (Or.inl ⟨by kernel_rfl, ?hyr1_1_6⟩) (by assumption) ?restr1_1_6
            case hqr1_1_6 => exact fun _ _ _ h => h
            case hyr1_1_6 => (intro w hSw; (try dsimp only at hSw); go_simp; try with_reducible rfl)
            try simp only [Act.put, List.getElem_toArray, List.getElem_cons_succ, List.getElem_cons_zero, List.setIfInBounds_toArray, List.set_cons_zero, List.set_cons_succ]
            refine wpAnyH_take (i := 7) (oi := _) (v := ?vr1_1_7) rfl (by kernel_rfl) (by kernel_rfl) (by kernel_rfl) ?hqr1_1_7 (Or.inl ⟨by kernel_rfl, ?hyr1_1_7⟩) (by assumption) ?restr1_1_7
            case hqr1_1_7 => exact fun _ _ _ h => h
            case hyr1_1_7 => (intro w hSw; (try dsimp only at hSw); go_simp; try with_reducible rfl)
            try simp only [Act.put, List.getElem_toArray, List.getElem_cons_succ, List.getElem_cons_zero, List.setIfInBounds_toArray, List.set_cons_zero, List.set_cons_succ]
            refine wpAnyH_take (i := 8) (oi := _) (v := ?vr1_1_8) rfl (by kernel_rfl) (by kernel_rfl) (by kernel_rfl) ?hqr1_1_8 (Or.inl ⟨by kernel_rfl, ?hyr1_1_8⟩) (by assumption) ?restr1_1_8
            case hqr1_1_8 => exact fun _ _ _ h => h
            case hyr1_1_8 => (intro w hSw; (try dsimp only at hSw); go_simp; try with_reducible rfl)
            try simp only [Act.put, List.getElem_toArray, List.getElem_cons_succ, List.getElem_cons_zero, List.setIfInBounds_toArray, List.set_cons_zero, List.set_cons_succ]
            refine wpAnyH_take (i := 9) (oi := _) (v := ?vr1_1_9) rfl (by kernel_rfl) (by kernel_rfl) (by kernel_rfl) ?hqr1_1_9 (Or.inl ⟨by kernel_rfl, ?hyr1_1_9⟩) (by assumption) ?restr1_1_9
            case hqr1_1_9 => exact fun _ _ _ h => h
            case hyr1_1_9 => (intro w hSw; (try dsimp only at hSw); go_simp; try with_reducible rfl)
            try simp only [Act.put, List.getElem_toArray, List.getElem_cons_succ, List.getElem_cons_zero, List.setIfInBounds_toArray, List.set_cons_zero, List.set_cons_succ]
            refine wpAnyH_take (i := 10) (oi := _) (v := undef) rfl (by kernel_rfl) (by kernel_rfl) (by kernel_rfl) (fun _ _ _ h => h) (Or.inr ⟨by kernel_rfl, rfl⟩) (by assumption) ?restr1_1_10
            try simp only [Act.put, List.getElem_toArray, List.getElem_cons_succ, List.getElem_cons_zero, List.setIfInBounds_toArray, List.set_cons_zero, List.set_cons_succ]
            refine wpAnyH_take (i := 11) (oi := _) (v := undef) rfl (by kernel_rfl) (by kernel_rfl) (by kernel_rfl) (fun _ _ _ h => h) (Or.inr ⟨by kernel_rfl, rfl⟩) (by assumption) ?restr1_1_11
            try simp only [Act.put, List.getElem_toArray, List.getElem_cons_succ, List.getElem_cons_zero, List.setIfInBounds_toArray, List.set_cons_zero, List.set_cons_succ]
            refine wpAnyH_take (i := 12) (oi := _) (v := undef) rfl (by kernel_rfl) (by kernel_rfl) (by kernel_rfl) (fun _ _ _ h => h) (Or.inr ⟨by kernel_rfl, rfl⟩) (by assumption) ?restr1_1_12
            try simp only [Act.put, List.getElem_toArray, List.getElem_cons_succ, List.getElem_cons_zero, List.setIfInBounds_toArray, List.set_cons_zero, List.set_cons_succ]
            refine wpAnyH_take (i := 13) (oi := _) (v := undef) rfl (by kernel_rfl) (by kernel_rfl) (by kernel_rfl) (fun _ _ _ h => h) (Or.inr ⟨by kernel_rfl, rfl⟩) (by assumption) ?restr1_1_13
            try simp only [Act.put, List.getElem_toArray, List.getElem_cons_succ, List.getElem_cons_zero, List.setIfInBounds_toArray, List.set_cons_zero, List.set_cons_succ]
            refine wpAnyH_take (i := 14) (oi := _) (v := undef) rfl (by kernel_rfl) (by kernel_rfl) (by kernel_rfl) (fun _ _ _ h => h) (Or.inr ⟨by kernel_rfl, rfl⟩) (by assumption) ?restr1_1_14
            try simp only [Act.put, List.getElem_toArray, List.getElem_cons_succ, List.getElem_cons_zero, List.setIfInBounds_toArray, List.set_cons_zero, List.set_cons_succ]
            refine wpAnyH_take (i := 15) (oi := _) (v := ?vr1_1_15) rfl (by kernel_rfl) (by kernel_rfl) (by kernel_rfl) ?hqr1_1_15 (Or.inl ⟨by kernel_rfl, ?hyr1_1_15⟩) (by assumption) ?restr1_1_15
            case hqr1_1_15 => exact fun _ _ _ h => h
            case hyr1_1_15 => (intro w hSw; (try dsimp only at hSw); go_simp; try with_reducible rfl)
            try simp only [Act.put, List.getElem_toArray, List.getElem_cons_succ, List.getElem_cons_zero, List.setIfInBounds_toArray, List.set_cons_zero, List.set_cons_succ]
            refine wpAnyH_take (i := 16) (oi := _) (v := ?vr1_1_16) rfl (by kernel_rfl) (by kernel_rfl) (by kernel_rfl) ?hqr1_1_16 (Or.inl ⟨by kernel_rfl, ?hyr1_1_16⟩) (by assumption) ?restr1_1_16
            case hqr1_1_16 => exact fun _ _ _ h => h
            case hyr1_1_16 => (intro w hSw; (try dsimp only at hSw); go_simp; try with_reducible rfl)
            try simp only [Act.put, List.getElem_toArray, List.getElem_cons_succ, List.getElem_cons_zero, List.setIfInBounds_toArray, List.set_cons_zero, List.set_cons_succ]
            refine wpAnyH_take (i := 17) (oi := _) (v := undef) rfl (by kernel_rfl) (by kernel_rfl) (by kernel_rfl) (fun _ _ _ h => h) (Or.inr ⟨by kernel_rfl, rfl⟩) (by assumption) ?restr1_1_17
            try simp only [Act.put, List.getElem_toArray, List.getElem_cons_succ, List.getElem_cons_zero, List.setIfInBounds_toArray, List.set_cons_zero, List.set_cons_succ]
            refine wpAnyH_take (i := 18) (oi := _) (v := undef) rfl (by kernel_rfl) (by kernel_rfl) (by kernel_rfl) (fun _ _ _ h => h) (Or.inr ⟨by kernel_rfl, rfl⟩) (by assumption) ?restr1_1_18
            try simp only [Act.put, List.getElem_toArray, List.getElem_cons_succ, List.getElem_cons_zero, List.setIfInBounds_toArray, List.set_cons_zero, List.set_cons_succ]
            refine wpAnyH_take (i := 19) (oi := _) (v := undef) rfl (by kernel_rfl) (by kernel_rfl) (by kernel_rfl) (fun _ _ _ h => h) (Or.inr ⟨by kernel_rfl, rfl⟩) (by assumption) ?restr1_1_19
            try simp only [Act.put, List.getElem_toArray, List.getElem_cons_succ, List.getElem_cons_zero, List.setIfInBounds_toArray, List.set_cons_zero, List.set_cons_succ]
            refine wpAnyH_take (i := 20) (oi := _) (v := undef) rfl (by kernel_rfl) (by kernel_rfl) (by kernel_rfl) (fun _ _ _ h => h) (Or.inr ⟨by kernel_rfl, rfl⟩) (by assumption) ?restr1_1_20
            try simp only [Act.put, List.getElem_toArray, List.getElem_cons_succ, List.getElem_cons_zero, List.setIfInBounds_toArray, List.set_cons_zero, List.set_cons_succ]
            refine wpAnyH_take (i := 21) (oi := _) (v := undef) rfl (by kernel_rfl) (by kernel_rfl) (by kernel_rfl) (fun _ _ _ h => h) (Or.inr ⟨by kernel_rfl, rfl⟩) (by assumption) ?restr1_1_21
            try simp only [Act.put, List.getElem_toArray, List.getElem_cons_succ, List.getElem_cons_zero, List.setIfInBounds_toArray, List.set_cons_zero, List.set_cons_succ]
            refine wpAnyH_take (i := 22) (oi := _) (v := undef) rfl (by kernel_rfl) (by kernel_rfl) (by kernel_rfl) (fun _ _ _ h => h) (Or.inr ⟨by kernel_rfl, rfl⟩) (by assumption) ?restr1_1_22
            try simp only [Act.put, List.getElem_toArray, List.getElem_cons_succ, List.getElem_cons_zero, List.setIfInBounds_toArray, List.set_cons_zero, List.set_cons_succ]
            refine wpAnyH_take (i := 23) (oi := _) (v := undef) rfl (by kernel_rfl) (by kernel_rfl) (by kernel_rfl) (fun _ _ _ h => h) (Or.inr ⟨by kernel_rfl, rfl⟩) (by assumption) ?restr1_1_23
            try simp only [Act.put, List.getElem_toArray, List.getElem_cons_succ, List.getElem_cons_zero, List.setIfInBounds_toArray, List.set_cons_zero, List.set_cons_succ]
            refine wpAnyH_take (i := 24) (oi := _) (v := undef) rfl (by kernel_rfl) (by kernel_rfl) (by kernel_rfl) (fun _ _ _ h => h) (Or.inr ⟨by kernel_rfl, rfl⟩) (by assumption) ?restr1_1_24
            try simp only [Act.put, List.getElem_toArray, List.getElem_cons_succ, List.getElem_cons_zero, List.setIfInBounds_toArray, List.set_cons_zero, List.set_cons_succ]
            refine wpAnyH_take (i := 25) (oi := _) (v := ?vr1_1_25) rfl (by kernel_rfl) (by kernel_rfl) (by kernel_rfl) ?hqr1_1_25 (Or.inl ⟨by kernel_rfl, ?hyr1_1_25⟩) (by assumption) ?restr1_1_25
            case hqr1_1_25 => exact fun _ _ _ h => h
            case hyr1_1_25 => (intro w hSw; (try dsimp only at hSw); go_simp; try with_reducible rfl)
            try simp only [Act.put, List.getElem_toArray, List.getElem_cons_succ, List.getElem_cons_zero, List.setIfInBounds_toArray, List.set_cons_zero, List.set_cons_succ]
            refine wpAnyH_take (i := 26) (oi := _) (v := ?vr1_1_26) rfl (by kernel_rfl) (by kernel_rfl) (by kernel_rfl) ?hqr1_1_26 (Or.inl ⟨by kernel_rfl, ?hyr1_1_26⟩) (by assumption) ?restr1_1_26
            case hqr1_1_26 => exact fun _ _ _ h => h
            case hyr1_1_26 => (intro w hSw; (try dsimp only at hSw); go_simp; try with_reducible rfl)
            try simp only [Act.put, List.getElem_toArray, List.getElem_cons_succ, List.getElem_cons_zero, List.setIfInBounds_toArray, List.set_cons_zero, List.set_cons_succ]
            refine wpAnyH_take (i := 27) (oi := _) (v := ?vr1_1_27) rfl (by kernel_rfl) (by kernel_rfl) (by kernel_rfl) ?hqr1_1_27 (Or.inl ⟨by kernel_rfl, ?hyr1_1_27⟩) (by assumption) ?restr1_1_27
            case hqr1_1_27 => exact fun _ _ _ h => h
            case hyr1_1_27 => (intro w hSw; (try dsimp only at hSw); go_simp; try with_reducible rfl)
            try simp only [Act.put, List.getElem_toArray, List.getElem_cons_succ, List.getElem_cons_zero, List.setIfInBounds_toArray, List.set_cons_zero, List.set_cons_succ]
            refine wpAnyH_ready (rs := [28]) (by kernel_rfl) (by simp) ?_
            refine AllReadyH.cons (o := _) rfl (fun K hK => ?_) AllReadyH.nil
            go_simp
            (go_at_call 36; refine (HW.out _ (HB8.out.then_ (And.left (by assumption)))).mono ?_; rintro e w11 ⟨rfl, hb11⟩)
            try (go_wp2_with fail)
            refine hK.out _ _ ?_ (fun hHr1_1 => ?_)
            · (try dsimp only); (first | assumption | exact HS.out _ (Bel.refl w8).drew | exact HS.out _ ((And.left (by assumption) : Bel w8 _).then_ hb11))
            clear hK K hHr1_0
            try simp only [Act.put, List.getElem_toArray, List.getElem_cons_succ, List.getElem_cons_zero, List.setIfInBounds_toArray, List.set_cons_zero, List.set_cons_succ]
            refine wpAnyH_take (i := 29) (oi := _) (v := ?vr1_1_29) rfl (by kernel_rfl) (by kernel_rfl) (by kernel_rfl) ?hqr1_1_29 (Or.inl ⟨by kernel_rfl, ?hyr1_1_29⟩) (by assumption) ?restr1_1_29
            case hqr1_1_29 => exact fun _ _ _ h => h
            case hyr1_1_29 => (intro w hSw; (try dsimp only at hSw); go_simp; try with_reducible rfl)
            try simp only [Act.put, List.getElem_toArray, List.getElem_cons_succ, List.getElem_cons_zero, List.setIfInBounds_toArray, List.set_cons_zero, List.set_cons_succ]
            refine wpAnyH_take (i := 30) (oi := _) (v := ?vr1_1_30) rfl (by kernel_rfl) (by kernel_rfl) (by kernel_rfl) ?hqr1_1_30 (Or.inl ⟨by kernel_rfl, ?hyr1_1_30⟩) (by assumption) ?restr1_1_30
            case hqr1_1_30 => exact fun _ _ _ h => h
            case hyr1_1_30 => (intro w hSw; (try dsimp only at hSw); go_simp; try with_reducible rfl)
            try simp only [Act.put, List.getElem_toArray, List.getElem_cons_succ, List.getElem_cons_zero, List.setIfInBounds_toArray, List.set_cons_zero, List.set_cons_succ]
            refine wpAnyH_done (by kernel_rfl) ?_ _
            refine NoPanic.normal ?_
            have hfin := HB8.out.then_ (And.left (by assumption))
            go_wp2
            go_ret
            exact ⟨rfl, hfin⟩
          · rw [decide_eq_false hab]
            have hne : sa ≠ sb := fun e => hab (HPR [] (by rw [List.append_nil, e]))
            have hne1 : (SA.toList == SB.toList) = false := by rw [hSA, hSB]; exact str_ne hne
            by_cases hll : sb.length < sa.length
            · have hllI : (sb.length : Int) < sa.length := by omega
              clear HPR hEQ hSA hSB hSC hab hne
              refine wp_region_noPanic ?_
              refine wp_region_held_drew (S := (fun V : World => Bel w8 V ∧ (convert 63 9 (.slice (some ⟨ga, oa, none⟩) sa.length ca)).run Tryz.prog V = .ok (.string SA) V ∧ (convert 63 9 (.slice (some ⟨gb, ob, none⟩) sb.length cb)).run Tryz.prog V = .ok (.string SB) V ∧ (sa.length ≤ sb.length → (convert 63 9 (.slice (some ⟨gb, ob, none⟩) sa.length cb)).run Tryz.prog V = .ok (.string SC) V))) (by kernel_rfl) ?_ (fun hHr2_0 => ?_)
              · (try dsimp only); (first | assumption | exact HS.out _ (Bel.refl w8).drew | exact HS.out _ ((And.left (by assumption) : Bel w8 _).then_ hb11))
              refine wpAnyH_take (i := 0) (oi := _) (v := ?vr2_1_0) rfl (by kernel_rfl) (by kernel_rfl) (by kernel_rfl) ?hqr2_1_0 (Or.inl ⟨by kernel_rfl, ?hyr2_1_0⟩) (by assumption) ?restr2_1_0
              case hqr2_1_0 => exact fun _ _ _ h => h
              case hyr2_1_0 => (intro w hSw; (try dsimp only at hSw); go_simp; try with_reducible rfl)
              try simp only [Act.put, List.getElem_toArray, List.getElem_cons_succ, List.getElem_cons_zero, List.setIfInBounds_toArray, List.set_cons_zero, List.set_cons_succ]
              refine wpAnyH_take (i := 1) (oi := _) (v := ?vr2_1_1) rfl (by kernel_rfl) (by kernel_rfl) (by kernel_rfl) ?hqr2_1_1 (Or.inl ⟨by kernel_rfl, ?hyr2_1_1⟩) (by assumption) ?restr2_1_1
              case hqr2_1_1 => exact fun _ _ _ h => h
              case hyr2_1_1 => (intro w hSw; (try dsimp only at hSw); go_simp; try with_reducible rfl)
              try simp only [Act.put, List.getElem_toArray, List.getElem_cons_succ, List.getElem_cons_zero, List.setIfInBounds_toArray, List.set_cons_zero, List.set_cons_succ]
              refine wpAnyH_take (i := 2) (oi := _) (v := ?vr2_1_2) rfl (by kernel_rfl) (by kernel_rfl) (by kernel_rfl) ?hqr2_1_2 (Or.inl ⟨by kernel_rfl, ?hyr2_1_2⟩) (by assumption) ?restr2_1_2
              case hqr2_1_2 => exact fun _ _ _ h => h
              case hyr2_1_2 => (intro w hSw; (try dsimp only at hSw); go_simp; try with_reducible rfl)
              try simp only [Act.put, List.getElem_toArray, List.getElem_cons_succ, List.getElem_cons_zero, List.setIfInBounds_toArray, List.set_cons_zero, List.set_cons_succ]
              refine wpAnyH_take (i := 3) (oi := _) (v := ?vr2_1_3) rfl (by kernel_rfl) (by kernel_rfl) (by kernel_rfl) ?hqr2_1_3 (Or.inl ⟨by kernel_rfl, ?hyr2_1_3⟩) (by assumption) ?restr2_1_3
              case hqr2_1_3 => exact fun _ _ _ h => h
              case hyr2_1_3 => (intro w hSw; (try dsimp only at hSw); go_simp; try with_reducible rfl)
              try simp only [Act.put, List.getElem_toArray, List.getElem_cons_succ, List.getElem_cons_zero, List.setIfInBounds_toArray, List.set_cons_zero, List.set_cons_succ]
              refine wpAnyH_take (i := 4) (oi := _) (v := ?vr2_1_4) rfl (by kernel_rfl) (by kernel_rfl) (by kernel_rfl) ?hqr2_1_4 (Or.inl ⟨by kernel_rfl, ?hyr2_1_4⟩) (by assumption) ?restr2_1_4
              case hqr2_1_4 => exact fun _ _ _ h => h
              case hyr2_1_4 => (intro w hSw; (try dsimp only at hSw); go_simp; try with_reducible rfl)
              try simp only [Act.put, List.getElem_toArray, List.getElem_cons_succ, List.getElem_cons_zero, List.setIfInBounds_toArray, List.set_cons_zero, List.set_cons_succ]
              refine wpAnyH_take (i := 5) (oi := _) (v := ?vr2_1_5) rfl (by kernel_rfl) (by kernel_rfl) (by kernel_rfl) ?hqr2_1_5 (Or.inl ⟨by kernel_rfl, ?hyr2_1_5⟩) (by assumption) ?restr2_1_5
              case hqr2_1_5 => exact fun _ _ _ h => h
              case hyr2_1_5 => (intro w hSw; (try dsimp only at hSw); go_simp; try with_reducible rfl)
              try simp only [Act.put, List.getElem_toArray, List.getElem_cons_succ, List.getElem_cons_zero, List.setIfInBounds_toArray, List.set_cons_zero, List.set_cons_succ]
              refine wpAnyH_take (i := 6) (oi := _) (v := ?vr2_1_6) rfl (by kernel_rfl) (by kernel_rfl) (by kernel_rfl) ?hqr2_1_6 (Or.inl ⟨by kernel_rfl, ?hyr2_1_6⟩) (by assumption) ?restr2_1_6
              case hqr2_1_6 => exact fun _ _ _ h => h
              case hyr2_1_6 => (intro w hSw; (try dsimp only at hSw); go_simp; try with_reducible rfl)
              try simp only [Act.put, List.getElem_toArray, List.getElem_cons_succ, List.getElem_cons_zero, List.setIfInBounds_toArray, List.set_cons_zero, List.set_cons_succ]
              refine wpAnyH_take (i := 7) (oi := _) (v := ?vr2_1_7) rfl (by kernel_rfl) (by kernel_rfl) (by kernel_rfl) ?hqr2_1_7 (Or.inl ⟨by kernel_rfl, ?hyr2_1_7⟩) (by assumption) ?restr2_1_7
              case hqr2_1_7 => exact fun _ _ _ h => h
              case hyr2_1_7 => (intro w hSw; (try dsimp only at hSw); go_simp; try with_reducible rfl)
              try simp only [Act.put, List.getElem_toArray, List.getElem_cons_succ, List.getElem_cons_zero, List.setIfInBounds_toArray, List.set_cons_zero, List.set_cons_succ]
              refine wpAnyH_take (i := 8) (oi := _) (v := ?vr2_1_8) rfl (by kernel_rfl) (by kernel_rfl) (by kernel_rfl) ?hqr2_1_8 (Or.inl ⟨by kernel_rfl, ?hyr2_1_8⟩) (by assumption) ?restr2_1_8
              case hqr2_1_8 => exact fun _ _ _ h => h
              case hyr2_1_8 => (intro w hSw; (try dsimp only at hSw); go_simp; try with_reducible rfl)
              try simp only [Act.put, List.getElem_toArray, List.getElem_cons_succ, List.getElem_cons_zero, List.setIfInBounds_toArray, List.set_cons_zero, List.set_cons_succ]
              refine wpAnyH_take (i := 9) (oi := _) (v := ?vr2_1_9) rfl (by kernel_rfl) (by kernel_rfl) (by kernel_rfl) ?hqr2_1_9 (Or.inl ⟨by kernel_rfl, ?hyr2_1_9⟩) (by assumption) ?restr2_1_9
              case hqr2_1_9 => exact fun _ _ _ h => h
              case hyr2_1_9 => (intro w hSw; (try dsimp only at hSw); go_simp; try with_reducible rfl)
              try simp only [Act.put, List.getElem_toArray, List.getElem_cons_succ, List.getElem_cons_zero, List.setIfInBounds_toArray, List.set_cons_zero, List.set_cons_succ]
              refine wpAnyH_take (i := 10) (oi := _) (v := ?vr2_1_10) rfl (by kernel_rfl) (by kernel_rfl) (by kernel_rfl) ?hqr2_1_10 (Or.inl ⟨by kernel_rfl, ?hyr2_1_10⟩) (by assumption) ?restr2_1_10
              case hqr2_1_10 => exact fun _ _ _ h => h
              case hyr2_1_10 => (intro w hSw; (try dsimp only at hSw); go_simp; try with_reducible rfl)
              try simp only [Act.put, List.getElem_toArray, List.getElem_cons_succ, List.getElem_cons_zero, List.setIfInBounds_toArray, List.set_cons_zero, List.set_cons_succ]
              refine wpAnyH_take (i := 11) (oi := _) (v := ?vr2_1_11) rfl (by kernel_rfl) (by kernel_rfl) (by kernel_rfl) ?hqr2_1_11 (Or.inl ⟨by kernel_rfl, ?hyr2_1_11⟩) (by assumption) ?restr2_1_11
              case hqr2_1_11 => exact fun _ _ _ h => h
              case hyr2_1_11 => (intro w hSw; (try dsimp only at hSw); go_simp; try with_reducible rfl)
              try simp only [Act.put, List.getElem_toArray, List.getElem_cons_succ, List.getElem_cons_zero, List.setIfInBounds_toArray, List.set_cons_zero, List.set_cons_succ]
              refine wpAnyH_take (i := 12) (oi := _) (v := ?vr2_1_12) rfl (by kernel_rfl) (by kernel_rfl) (by kernel_rfl) ?hqr2_1_12 (Or.inl ⟨by kernel_rfl, ?hyr2_1_12⟩) (by assumption) ?restr2_1_12
              case hqr2_1_12 => exact fun _ _ _ h => h
              case hyr2_1_12 => (intro w hSw; (try dsimp only at hSw); go_simp; try with_reducible rfl)
              try simp only [Act.put, List.getElem_toArray, List.getElem_cons_succ, List.getElem_cons_zero, List.setIfInBounds_toArray, List.set_cons_zero, List.set_cons_succ]
              refine wpAnyH_take (i := 13) (oi := _) (v := ?vr2_1_13) rfl (by kernel_rfl) (by kernel_rfl) (by kernel_rfl) ?hqr2_1_13 (Or.inl ⟨by kernel_rfl, ?hyr2_1_13⟩) (by assumption) ?restr2_1_13
              case hqr2_1_13 => exact fun _ _ _ h => h
              case hyr2_1_13 => (intro w hSw; (try dsimp only at hSw); go_simp; try with_reducible rfl)
              try simp only [Act.put, List.getElem_toArray, List.getElem_cons_succ, List.getElem_cons_zero, List.setIfInBounds_toArray, List.set_cons_zero, List.set_cons_succ]
              refine wpAnyH_take (i := 14) (oi := _) (v := ?vr2_1_14) rfl (by kernel_rfl) (by kernel_rfl) (by kernel_rfl) ?hqr2_1_14 (Or.inl ⟨by kernel_rfl, ?hyr2_1_14⟩) (by assumption) ?restr2_1_14
              case hqr2_1_14 => exact fun _ _ _ h => h
              case hyr2_1_14 => (intro w hSw; (try dsimp only at hSw); go_simp; try with_reducible rfl)
              try simp only [Act.put, List.getElem_toArray, List.getElem_cons_succ, List.getElem_cons_zero, List.setIfInBounds_toArray, List.set_cons_zero, List.set_cons_succ]
              refine wpAnyH_take (i := 15) (oi := _) (v := ?vr2_1_15) rfl (by kernel_rfl) (by kernel_rfl) (by kernel_rfl) ?hqr2_1_15 (Or.inl ⟨by kernel_rfl, ?hyr2_1_15⟩) (by assumption) ?restr2_1_15
              case hqr2_1_15 => exact fun _ _ _ h => h
              case hyr2_1_15 => (intro w hSw; (try dsimp only at hSw); go_simp; try with_reducible rfl)
              try simp only [Act.put, List.getElem_toArray, List.getElem_cons_succ, List.getElem_cons_zero, List.setIfInBounds_toArray, List.set_cons_zero, List.set_cons_succ]
              refine wpAnyH_take (i := 16) (oi := _) (v := ?vr2_1_16) rfl (by kernel_rfl) (by kernel_rfl) (by kernel_rfl) ?hqr2_1_16 (Or.inl ⟨by kernel_rfl, ?hyr2_1_16⟩) (by assumption) ?restr2_1_16
              case hqr2_1_16 => exact fun _ _ _ h => h
              case hyr2_1_16 => (intro w hSw; (try dsimp only at hSw); go_simp; try with_reducible rfl)
              try simp only [Act.put, List.getElem_toArray, List.getElem_cons_succ, List.getElem_cons_zero, List.setIfInBounds_toArray, List.set_cons_zero, List.set_cons_succ]
              refine wpAnyH_take (i := 17) (oi := _) (v := undef) rfl (by kernel_rfl) (by kernel_rfl) (by kernel_rfl) (fun _ _ _ h => h) (Or.inr ⟨by kernel_rfl, rfl⟩) (by assumption) ?restr2_1_17
              try simp only [Act.put, List.getElem_toArray, List.getElem_cons_succ, List.getElem_cons_zero, List.setIfInBounds_toArray, List.set_cons_zero, List.set_cons_succ]
              refine wpAnyH_take (i := 18) (oi := _) (v := undef) rfl (by kernel_rfl) (by kernel_rfl) (by kernel_rfl) (fun _ _ _ h => h) (Or.inr ⟨by kernel_rfl, rfl⟩) (by assumption) ?restr2_1_18
              try simp only [Act.put, List.getElem_toArray, List.getElem_cons_succ, List.getElem_cons_zero, List.setIfInBounds_toArray, List.set_cons_zero, List.set_cons_succ]
              refine wpAnyH_take (i := 19) (oi := _) (v := undef) rfl (by kernel_rfl) (by kernel_rfl) (by kernel_rfl) (fun _ _ _ h => h) (Or.inr ⟨by kernel_rfl, rfl⟩) (by assumption) ?restr2_1_19
              try simp only [Act.put, List.getElem_toArray, List.getElem_cons_succ, List.getElem_cons_zero, List.setIfInBounds_toArray, List.set_cons_zero, List.set_cons_succ]
              refine wpAnyH_take (i := 20) (oi := _) (v := undef) rfl (by kernel_rfl) (by kernel_rfl) (by kernel_rfl) (fun _ _ _ h => h) (Or.inr ⟨by kernel_rfl, rfl⟩) (by assumption) ?restr2_1_20
              try simp only [Act.put, List.getElem_toArray, List.getElem_cons_succ, List.getElem_cons_zero, List.setIfInBounds_toArray, List.set_cons_zero, List.set_cons_succ]
              refine wpAnyH_take (i := 21) (oi := _) (v := undef) rfl (by kernel_rfl) (by kernel_rfl) (by kernel_rfl) (fun _ _ _ h => h) (Or.inr ⟨by kernel_rfl, rfl⟩) (by assumption) ?restr2_1_21
              try simp only [Act.put, List.getElem_toArray, List.getElem_cons_succ, List.getElem_cons_zero, List.setIfInBounds_toArray, List.set_cons_zero, List.set_cons_succ]
              refine wpAnyH_take (i := 22) (oi := _) (v := undef) rfl (by kernel_rfl) (by kernel_rfl) (by kernel_rfl) (fun _ _ _ h => h) (Or.inr ⟨by kernel_rfl, rfl⟩) (by assumption) ?restr2_1_22
              try simp only [Act.put, List.getElem_toArray, List.getElem_cons_succ, List.getElem_cons_zero, List.setIfInBounds_toArray, List.set_cons_zero, List.set_cons_succ]
              refine wpAnyH_take (i := 23) (oi := _) (v := undef) rfl (by kernel_rfl) (by kernel_rfl) (by kernel_rfl) (fun _ _ _ h => h) (Or.inr ⟨by kernel_rfl, rfl⟩) (by assumption) ?restr2_1_23
              try simp only [Act.put, List.getElem_toArray, List.getElem_cons_succ, List.getElem_cons_zero, List.setIfInBounds_toArray, List.set_cons_zero, List.set_cons_succ]
              refine wpAnyH_take (i := 24) (oi := _) (v := undef) rfl (by kernel_rfl) (by kernel_rfl) (by kernel_rfl) (fun _ _ _ h => h) (Or.inr ⟨by kernel_rfl, rfl⟩) (by assumption) ?restr2_1_24
              try simp only [Act.put, List.getElem_toArray, List.getElem_cons_succ, List.getElem_cons_zero, List.setIfInBounds_toArray, List.set_cons_zero, List.set_cons_succ]
              refine wpAnyH_take (i := 25) (oi := _) (v := ?vr2_1_25) rfl (by kernel_rfl) (by kernel_rfl) (by kernel_rfl) ?hqr2_1_25 (Or.inl ⟨by kernel_rfl, ?hyr2_1_25⟩) (by assumption) ?restr2_1_25
              case hqr2_1_25 => exact fun _ _ _ h => h
              case hyr2_1_25 => (intro w hSw; (try dsimp only at hSw); go_simp; try with_reducible rfl)
              try simp only [Act.put, List.getElem_toArray, List.getElem_cons_succ, List.getElem_cons_zero, List.setIfInBounds_toArray, List.set_cons_zero, List.set_cons_succ]
              refine wpAnyH_take (i := 26) (oi := _) (v := ?vr2_1_26) rfl (by kernel_rfl) (by kernel_rfl) (by kernel_rfl) ?hqr2_1_26 (Or.inl ⟨by kernel_rfl, ?hyr2_1_26⟩) (by assumption) ?restr2_1_26
              case hqr2_1_26 => exact fun _ _ _ h => h
              case hyr2_1_26 => (intro w hSw; (try dsimp only at hSw); go_simp; try with_reducible rfl)
              try simp only [Act.put, List.getElem_toArray, List.getElem_cons_succ, List.getElem_cons_zero, List.setIfInBounds_toArray, List.set_cons_zero, List.set_cons_succ]
              refine wpAnyH_take (i := 27) (oi := _) (v := ?vr2_1_27) rfl (by kernel_rfl) (by kernel_rfl) (by kernel_rfl) ?hqr2_1_27 (Or.inl ⟨by kernel_rfl, ?hyr2_1_27⟩) (by assumption) ?restr2_1_27
              case hqr2_1_27 => exact fun _ _ _ h => h
              case hyr2_1_27 => (intro w hSw; (try dsimp only at hSw); go_simp; try with_reducible rfl)
              try simp only [Act.put, List.getElem_toArray, List.getElem_cons_succ, List.getElem_cons_zero, List.setIfInBounds_toArray, List.set_cons_zero, List.set_cons_succ]
              refine wpAnyH_ready (rs := [28]) (by kernel_rfl) (by simp) ?_
              refine AllReadyH.cons (o := _) rfl (fun K hK => ?_) AllReadyH.nil
              go_simp
              (go_at_call 36; refine (HW.out _ (HB8.out.then_ (And.left (by assumption)))).mono ?_; rintro e w11 ⟨rfl, hb11⟩)
              try (go_wp2_with fail)
              refine hK.out _ _ ?_ (fun hHr2_1 => ?_)
              · (try dsimp only); (first | assumption | exact HS.out _ (Bel.refl w8).drew | exact HS.out _ ((And.left (by assumption) : Bel w8 _).then_ hb11))
              clear hK K hHr2_0
              try simp only [Act.put, List.getElem_toArray, List.getElem_cons_succ, List.getElem_cons_zero, List.setIfInBounds_toArray, List.set_cons_zero, List.set_cons_succ]
              refine wpAnyH_take (i := 29) (oi := _) (v := ?vr2_1_29) rfl (by kernel_rfl) (by kernel_rfl) (by kernel_rfl) ?hqr2_1_29 (Or.inl ⟨by kernel_rfl, ?hyr2_1_29⟩) (by assumption) ?restr2_1_29
              case hqr2_1_29 => exact fun _ _ _ h => h
              case hyr2_1_29 => (intro w hSw; (try dsimp only at hSw); go_simp; try with_reducible rfl)
              try simp only [Act.put, List.getElem_toArray, List.getElem_cons_succ, List.getElem_cons_zero, List.setIfInBounds_toArray, List.set_cons_zero, List.set_cons_succ]
              refine wpAnyH_take (i := 30) (oi := _) (v := ?vr2_1_30) rfl (by kernel_rfl) (by kernel_rfl) (by kernel_rfl) ?hqr2_1_30 (Or.inl ⟨by kernel_rfl, ?hyr2_1_30⟩) (by assumption) ?restr2_1_30
              case hqr2_1_30 => exact fun _ _ _ h => h
              case hyr2_1_30 => (intro w hSw; (try dsimp only at hSw); go_simp; try with_reducible rfl)
              try simp only [Act.put, List.getElem_toArray, List.getElem_cons_succ, List.getElem_cons_zero, List.setIfInBounds_toArray, List.set_cons_zero, List.set_cons_succ]
              refine wpAnyH_done (by kernel_rfl) ?_ _
              refine NoPanic.normal ?_
              have hfin := HB8.out.then_ (And.left (by assumption))
              go_wp2
              go_ret
              exact ⟨rfl, hfin⟩
            · have hllI : (sa.length : Int) ≤ sb.length := by omega
              have hllN : sa.length ≤ sb.length := by omega
              have hllb : decide ((sb.length : Int) < sa.length) = false := by simp; omega
              have hllc : decide (sb.length < sa.length) = false := by simp; omega
              have hle : (sa.length : Int) ≤ cb := by omega
              have hne2 : (SC.toList == SA.toList) = false := by
                rw [hSC, hSA]
                refine str_ne fun e => hab (HPR (sb.drop sa.length) ?_)
                rw [show sa ++ sb.drop sa.length = sb.take sa.length ++ sb.drop sa.length by rw [e], List.take_append_drop]
              clear HPR hEQ hSA hSB hSC hab hne
              refine wp_region_noPanic ?_
              refine wp_region_held_drew (S := (fun V : World => Bel w8 V ∧ (convert 63 9 (.slice (some ⟨ga, oa, none⟩) sa.length ca)).run Tryz.prog V = .ok (.string SA) V ∧ (convert 63 9 (.slice (some ⟨gb, ob, none⟩) sb.length cb)).run Tryz.prog V = .ok (.string SB) V ∧ (sa.length ≤ sb.length → (convert 63 9 (.slice (some ⟨gb, ob, none⟩) sa.length cb)).run Tryz.prog V = .ok (.string SC) V))) (by kernel_rfl) ?_ (fun hHr3_0 => ?_)
              · (try dsimp only); (first | assumption | exact HS.out _ (Bel.refl w8).drew | exact HS.out _ ((And.left (by assumption) : Bel w8 _).then_ hb11))
              refine wpAnyH_take (i := 0) (oi := _) (v := ?vr3_1_0) rfl (by kernel_rfl) (by kernel_rfl) (by kernel_rfl) ?hqr3_1_0 (Or.inl ⟨by kernel_rfl, ?hyr3_1_0⟩) (by assumption) ?restr3_1_0
              case hqr3_1_0 => exact fun _ _ _ h => h
              case hyr3_1_0 => (intro w hSw; (try dsimp only at hSw); go_simp; try with_reducible rfl)
              try simp only [Act.put, List.getElem_toArray, List.getElem_cons_succ, List.getElem_cons_zero, List.setIfInBounds_toArray, List.set_cons_zero, List.set_cons_succ]
              refine wpAnyH_take (i := 1) (oi := _) (v := ?vr3_1_1) rfl (by kernel_rfl) (by kernel_rfl) (by kernel_rfl) ?hqr3_1_1 (Or.inl ⟨by kernel_rfl, ?hyr3_1_1⟩) (by assumption) ?restr3_1_1
              case hqr3_1_1 => exact fun _ _ _ h => h
              case hyr3_1_1 => (intro w hSw; (try dsimp only at hSw); go_simp; try with_reducible rfl)
              try simp only [Act.put, List.getElem_toArray, List.getElem_cons_succ, List.getElem_cons_zero, List.setIfInBounds_toArray, List.set_cons_zero, List.set_cons_succ]
              refine wpAnyH_take (i := 2) (oi := _) (v := ?vr3_1_2) rfl (by kernel_rfl) (by kernel_rfl) (by kernel_rfl) ?hqr3_1_2 (Or.inl ⟨by kernel_rfl, ?hyr3_1_2⟩) (by assumption) ?restr3_1_2
              case hqr3_1_2 => exact fun _ _ _ h => h
              case hyr3_1_2 => (intro w hSw; (try dsimp only at hSw); go_simp; try with_reducible rfl)
              try simp only [Act.put, List.getElem_toArray, List.getElem_cons_succ, List.getElem_cons_zero, List.setIfInBounds_toArray, List.set_cons_zero, List.set_cons_succ]
              refine wpAnyH_take (i := 3) (oi := _) (v := ?vr3_1_3) rfl (by kernel_rfl) (by kernel_rfl) (by kernel_rfl) ?hqr3_1_3 (Or.inl ⟨by kernel_rfl, ?hyr3_1_3⟩) (by assumption) ?restr3_1_3
              case hqr3_1_3 => exact fun _ _ _ h => h
              case hyr3_1_3 => (intro w hSw; (try dsimp only at hSw); go_simp; try with_reducible rfl)
              try simp only [Act.put, List.getElem_toArray, List.getElem_cons_succ, List.getElem_cons_zero, List.setIfInBounds_toArray, List.set_cons_zero, List.set_cons_succ]
              refine wpAnyH_take (i := 4) (oi := _) (v := ?vr3_1_4) rfl (by kernel_rfl) (by kernel_rfl) (by kernel_rfl) ?hqr3_1_4 (Or.inl ⟨by kernel_rfl, ?hyr3_1_4⟩) (by assumption) ?restr3_1_4
              case hqr3_1_4 => exact fun _ _ _ h => h
              case hyr3_1_4 => (intro w hSw; (try dsimp only at hSw); go_simp; try with_reducible rfl)
              try simp only [Act.put, List.getElem_toArray, List.getElem_cons_succ, List.getElem_cons_zero, List.setIfInBounds_toArray, List.set_cons_zero, List.set_cons_succ]
              refine wpAnyH_take (i := 5) (oi := _) (v := ?vr3_1_5) rfl (by kernel_rfl) (by kernel_rfl) (by kernel_rfl) ?hqr3_1_5 (Or.inl ⟨by kernel_rfl, ?hyr3_1_5⟩) (by assumption) ?restr3_1_5
              case hqr3_1_5 => exact fun _ _ _ h => h
              case hyr3_1_5 => (intro w hSw; (try dsimp only at hSw); go_simp; try with_reducible rfl)
              try simp only [Act.put, List.getElem_toArray, List.getElem_cons_succ, List.getElem_cons_zero, List.setIfInBounds_toArray, List.set_cons_zero, List.set_cons_succ]
              refine wpAnyH_take (i := 6) (oi := _) (v := ?vr3_1_6) rfl (by kernel_rfl) (by kernel_rfl) (by kernel_rfl) ?hqr3_1_6 (Or.inl ⟨by kernel_rfl, ?hyr3_1_6⟩) (by assumption) ?restr3_1_6
              case hqr3_1_6 => exact fun _ _ _ h => h
              case hyr3_1_6 => (intro w hSw; (try dsimp only at hSw); go_simp; try with_reducible rfl)
              try simp only [Act.put, List.getElem_toArray, List.getElem_cons_succ, List.getElem_cons_zero, List.setIfInBounds_toArray, List.set_cons_zero, List.set_cons_succ]
              refine wpAnyH_take (i := 7) (oi := _) (v := ?vr3_1_7) rfl (by kernel_rfl) (by kernel_rfl) (by kernel_rfl) ?hqr3_1_7 (Or.inl ⟨by kernel_rfl, ?hyr3_1_7⟩) (by assumption) ?restr3_1_7
              case hqr3_1_7 => exact fun _ _ _ h => h
              case hyr3_1_7 => (intro w hSw; (try dsimp only at hSw); go_simp; try with_reducible rfl)
              try simp only [Act.put, List.getElem_toArray, List.getElem_cons_succ, List.getElem_cons_zero, List.setIfInBounds_toArray, List.set_cons_zero, List.set_cons_succ]
              refine wpAnyH_take (i := 8) (oi := _) (v := ?vr3_1_8) rfl (by kernel_rfl) (by kernel_rfl) (by kernel_rfl) ?hqr3_1_8 (Or.inl ⟨by kernel_rfl, ?hyr3_1_8⟩) (by assumption) ?restr3_1_8
              case hqr3_1_8 => exact fun _ _ _ h => h
              case hyr3_1_8 => (intro w hSw; (try dsimp only at hSw); go_simp; try with_reducible rfl)
              try simp only [Act.put, List.getElem_toArray, List.getElem_cons_succ, List.getElem_cons_zero, List.setIfInBounds_toArray, List.set_cons_zero, List.set_cons_succ]
              refine wpAnyH_take (i := 9) (oi := _) (v := ?vr3_1_9) rfl (by kernel_rfl) (by kernel_rfl) (by kernel_rfl) ?hqr3_1_9 (Or.inl ⟨by kernel_rfl, ?hyr3_1_9⟩) (by assumption) ?restr3_1_9
              case hqr3_1_9 => exact fun _ _ _ h => h
              case hyr3_1_9 => (intro w hSw; (try dsimp only at hSw); go_simp; try with_reducible rfl)
              try simp only [Act.put, List.getElem_toArray, List.getElem_cons_succ, List.getElem_cons_zero, List.setIfInBounds_toArray, List.set_cons_zero, List.set_cons_succ]
              refine wpAnyH_take (i := 10) (oi := _) (v := ?vr3_1_10) rfl (by kernel_rfl) (by kernel_rfl) (by kernel_rfl) ?hqr3_1_10 (Or.inl ⟨by kernel_rfl, ?hyr3_1_10⟩) (by assumption) ?restr3_1_10
              case hqr3_1_10 => exact fun _ _ _ h => h
              case hyr3_1_10 => (intro w hSw; (try dsimp only at hSw); go_simp; try with_reducible rfl)
              try simp only [Act.put, List.getElem_toArray, List.getElem_cons_succ, List.getElem_cons_zero, List.setIfInBounds_toArray, List.set_cons_zero, List.set_cons_succ]
              refine wpAnyH_take (i := 11) (oi := _) (v := ?vr3_1_11) rfl (by kernel_rfl) (by kernel_rfl) (by kernel_rfl) ?hqr3_1_11 (Or.inl ⟨by kernel_rfl, ?hyr3_1_11⟩) (by assumption) ?restr3_1_11
              case hqr3_1_11 => exact fun _ _ _ h => h
              case hyr3_1_11 => (intro w hSw; (try dsimp only at hSw); go_simp; try with_reducible rfl)
              try simp only [Act.put, List.getElem_toArray, List.getElem_cons_succ, List.getElem_cons_zero, List.setIfInBounds_toArray, List.set_cons_zero, List.set_cons_succ]
              refine wpAnyH_take (i := 12) (oi := _) (v := ?vr3_1_12) rfl (by kernel_rfl) (by kernel_rfl) (by kernel_rfl) ?hqr3_1_12 (Or.inl ⟨by kernel_rfl, ?hyr3_1_12⟩) (by assumption) ?restr3_1_12
              case hqr3_1_12 => exact fun _ _ _ h => h
              case hyr3_1_12 => (intro w hSw; (try dsimp only at hSw); go_simp; try with_reducible rfl)
              try simp only [Act.put, List.getElem_toArray, List.getElem_cons_succ, List.getElem_cons_zero, List.setIfInBounds_toArray, List.set_cons_zero, List.set_cons_succ]
              refine wpAnyH_take (i := 13) (oi := _) (v := ?vr3_1_13) rfl (by kernel_rfl) (by kernel_rfl) (by kernel_rfl) ?hqr3_1_13 (Or.inl ⟨by kernel_rfl, ?hyr3_1_13⟩) (by assumption) ?restr3_1_13
              case hqr3_1_13 => exact fun _ _ _ h => h
              case hyr3_1_13 => (intro w hSw; (try dsimp only at hSw); go_simp; try with_reducible rfl)
              try simp only [Act.put, List.getElem_toArray, List.getElem_cons_succ, List.getElem_cons_zero, List.setIfInBounds_toArray, List.set_cons_zero, List.set_cons_succ]
              refine wpAnyH_take (i := 14) (oi := _) (v := ?vr3_1_14) rfl (by kernel_rfl) (by kernel_rfl) (by kernel_rfl) ?hqr3_1_14 (Or.inl ⟨by kernel_rfl, ?hyr3_1_14⟩) (by assumption) ?restr3_1_14
              case hqr3_1_14 => exact fun _ _ _ h => h
              case hyr3_1_14 => (intro w hSw; (try dsimp only at hSw); go_simp; try with_reducible rfl)
              try simp only [Act.put, List.getElem_toArray, List.getElem_cons_succ, List.getElem_cons_zero, List.setIfInBounds_toArray, List.set_cons_zero, List.set_cons_succ]
              refine wpAnyH_take (i := 15) (oi := _) (v := ?vr3_1_15) rfl (by kernel_rfl) (by kernel_rfl) (by kernel_rfl) ?hqr3_1_15 (Or.inl ⟨by kernel_rfl, ?hyr3_1_15⟩) (by assumption) ?restr3_1_15
              case hqr3_1_15 => exact fun _ _ _ h => h
              case hyr3_1_15 => (intro w hSw; (try dsimp only at hSw); go_simp; try with_reducible rfl)
              try simp only [Act.put, List.getElem_toArray, List.getElem_cons_succ, List.getElem_cons_zero, List.setIfInBounds_toArray, List.set_cons_zero, List.set_cons_succ]
              refine wpAnyH_take (i := 16) (oi := _) (v := ?vr3_1_16) rfl (by kernel_rfl) (by kernel_rfl) (by kernel_rfl) ?hqr3_1_16 (Or.inl ⟨by kernel_rfl, ?hyr3_1_16⟩) (by assumption) ?restr3_1_16
              case hqr3_1_16 => exact fun _ _ _ h => h
              case hyr3_1_16 => (intro w hSw; (try dsimp only at hSw); go_simp; try with_reducible rfl)
              try simp only [Act.put, List.getElem_toArray, List.getElem_cons_succ, List.getElem_cons_zero, List.setIfInBounds_toArray, List.set_cons_zero, List.set_cons_succ]
              refine wpAnyH_take (i := 17) (oi := _) (v := ?vr3_1_17) rfl (by kernel_rfl) (by kernel_rfl) (by kernel_rfl) ?hqr3_1_17 (Or.inl ⟨by kernel_rfl, ?hyr3_1_17⟩) (by assumption) ?restr3_1_17
              case hqr3_1_17 => exact fun _ _ _ h => h
              case hyr3_1_17 => (intro w hSw; (try dsimp only at hSw); go_simp; try with_reducible rfl)
              try simp only [Act.put, List.getElem_toArray, List.getElem_cons_succ, List.getElem_cons_zero, List.setIfInBounds_toArray, List.set_cons_zero, List.set_cons_succ]
              refine wpAnyH_take (i := 18) (oi := _) (v := ?vr3_1_18) rfl (by kernel_rfl) (by kernel_rfl) (by kernel_rfl) ?hqr3_1_18 (Or.inl ⟨by kernel_rfl, ?hyr3_1_18⟩) (by assumption) ?restr3_1_18
              case hqr3_1_18 => exact fun _ _ _ h => h
              case hyr3_1_18 => (intro w hSw; (try dsimp only at hSw); go_simp; try with_reducible rfl)
              try simp only [Act.put, List.getElem_toArray, List.getElem_cons_succ, List.getElem_cons_zero, List.setIfInBounds_toArray, List.set_cons_zero, List.set_cons_succ]
              refine wpAnyH_take (i := 19) (oi := _) (v := ?vr3_1_19) rfl (by kernel_rfl) (by kernel_rfl) (by kernel_rfl) ?hqr3_1_19 (Or.inl ⟨by kernel_rfl, ?hyr3_1_19⟩) (by assumption) ?restr3_1_19
              case hqr3_1_19 => exact fun _ _ _ h => h
              case hyr3_1_19 => (intro w hSw; (try dsimp only at hSw); go_simp; try with_reducible rfl)
              try simp only [Act.put, List.getElem_toArray, List.getElem_cons_succ, List.getElem_cons_zero, List.setIfInBounds_toArray, List.set_cons_zero, List.set_cons_succ]
              refine wpAnyH_take (i := 20) (oi := _) (v := ?vr3_1_20) rfl (by kernel_rfl) (by kernel_rfl) (by kernel_rfl) ?hqr3_1_20 (Or.inl ⟨by kernel_rfl, ?hyr3_1_20⟩) (by assumption) ?restr3_1_20
              case hqr3_1_20 => exact fun _ _ _ h => h
              case hyr3_1_20 => (intro w hSw; (try dsimp only at hSw); go_simp; try with_reducible rfl)
              try simp only [Act.put, List.getElem_toArray, List.getElem_cons_succ, List.getElem_cons_zero, List.setIfInBounds_toArray, List.set_cons_zero, List.set_cons_succ]
              refine wpAnyH_take (i := 21) (oi := _) (v := ?vr3_1_21) rfl (by kernel_rfl) (by kernel_rfl) (by kernel_rfl) ?hqr3_1_21 (Or.inl ⟨by kernel_rfl, ?hyr3_1_21⟩) (by assumption) ?restr3_1_21
              case hqr3_1_21 => exact fun _ _ _ h => h
              case hyr3_1_21 => (intro w hSw; (try dsimp only at hSw); go_simp; try with_reducible rfl)
              try simp only [Act.put, List.getElem_toArray, List.getElem_cons_succ, List.getElem_cons_zero, List.setIfInBounds_toArray, List.set_cons_zero, List.set_cons_succ]
              refine wpAnyH_take (i := 22) (oi := _) (v := ?vr3_1_22) rfl (by kernel_rfl) (by kernel_rfl) (by kernel_rfl) ?hqr3_1_22 (Or.inl ⟨by kernel_rfl, ?hyr3_1_22⟩) (by assumption) ?restr3_1_22
              case hqr3_1_22 => exact fun _ _ _ h => h
              case hyr3_1_22 => (intro w hSw; (try dsimp only at hSw); go_simp; try with_reducible rfl)
              try simp only [Act.put, List.getElem_toArray, List.getElem_cons_succ, List.getElem_cons_zero, List.setIfInBounds_toArray, List.set_cons_zero, List.set_cons_succ]
              refine wpAnyH_take (i := 23) (oi := _) (v := ?vr3_1_23) rfl (by kernel_rfl) (by kernel_rfl) (by kernel_rfl) ?hqr3_1_23 (Or.inl ⟨by kernel_rfl, ?hyr3_1_23⟩) (by assumption) ?restr3_1_23
              case hqr3_1_23 => exact fun _ _ _ h => h
              case hyr3_1_23 => (intro w hSw; (try dsimp only at hSw); go_simp; try with_reducible rfl)
              try simp only [Act.put, List.getElem_toArray, List.getElem_cons_succ, List.getElem_cons_zero, List.setIfInBounds_toArray, List.set_cons_zero, List.set_cons_succ]
              refine wpAnyH_take (i := 24) (oi := _) (v := ?vr3_1_24) rfl (by kernel_rfl) (by kernel_rfl) (by kernel_rfl) ?hqr3_1_24 (Or.inl ⟨by kernel_rfl, ?hyr3_1_24⟩) (by assumption) ?restr3_1_24
              case hqr3_1_24 => exact fun _ _ _ h => h
              case hyr3_1_24 => (intro w hSw; (try dsimp only at hSw); go_simp; try with_reducible rfl)
              try simp only [Act.put, List.getElem_toArray, List.getElem_cons_succ, List.getElem_cons_zero, List.setIfInBounds_toArray, List.set_cons_zero, List.set_cons_succ]
              refine wpAnyH_take (i := 25) (oi := _) (v := ?vr3_1_25) rfl (by kernel_rfl) (by kernel_rfl) (by kernel_rfl) ?hqr3_1_25 (Or.inl ⟨by kernel_rfl, ?hyr3_1_25⟩) (by assumption) ?restr3_1_25
              case hqr3_1_25 => exact fun _ _ _ h => h
              case hyr3_1_25 => (intro w hSw; (try dsimp only at hSw); go_simp; try with_reducible rfl)
              try simp only [Act.put, List.getElem_toArray, List.getElem_cons_succ, List.getElem_cons_zero, List.setIfInBounds_toArray, List.set_cons_zero, List.set_cons_succ]
              refine wpAnyH_take (i := 26) (oi := _) (v := ?vr3_1_26) rfl (by kernel_rfl) (by kernel_rfl) (by kernel_rfl) ?hqr3_1_26 (Or.inl ⟨by kernel_rfl, ?hyr3_1_26⟩) (by assumption) ?restr3_1_26
              case hqr3_1_26 => exact fun _ _ _ h => h
              case hyr3_1_26 => (intro w hSw; (try dsimp only at hSw); go_simp; try with_reducible rfl)
              try simp only [Act.put, List.getElem_toArray, List.getElem_cons_succ, List.getElem_cons_zero, List.setIfInBounds_toArray, List.set_cons_zero, List.set_cons_succ]
              refine wpAnyH_take (i := 27) (oi := _) (v := ?vr3_1_27) rfl (by kernel_rfl) (by kernel_rfl) (by kernel_rfl) ?hqr3_1_27 (Or.inl ⟨by kernel_rfl, ?hyr3_1_27⟩) (by assumption) ?restr3_1_27
              case hqr3_1_27 => exact fun _ _ _ h => h
              case hyr3_1_27 => (intro w hSw; (try dsimp only at hSw); go_simp; try with_reducible rfl)
              try simp only [Act.put, List.getElem_toArray, List.getElem_cons_succ, List.getElem_cons_zero, List.setIfInBounds_toArray, List.set_cons_zero, List.set_cons_succ]
              refine wpAnyH_ready (rs := [28]) (by kernel_rfl) (by simp) ?_
              refine AllReadyH.cons (o := _) rfl (fun K hK => ?_) AllReadyH.nil
              go_simp
              (go_at_call 36; refine (HW.out _ (HB8.out.then_ (And.left (by assumption)))).mono ?_; rintro e w11 ⟨rfl, hb11⟩)
              try (go_wp2_with fail)
              refine hK.out _ _ ?_ (fun hHr3_1 => ?_)
              · (try dsimp only); (first | assumption | exact HS.out _ (Bel.refl w8).drew | exact HS.out _ ((And.left (by assumption) : Bel w8 _).then_ hb11))
              clear hK K hHr3_0
              try simp only [Act.put, List.getElem_toArray, List.getElem_cons_succ, List.getElem_cons_zero, List.setIfInBounds_toArray, List.set_cons_zero, List.set_cons_succ]
              refine wpAnyH_take (i := 29) (oi := _) (v := ?vr3_1_29) rfl (by kernel_rfl) (by kernel_rfl) (by kernel_rfl) ?hqr3_1_29 (Or.inl ⟨by kernel_rfl, ?hyr3_1_29⟩) (by assumption) ?restr3_1_29
              case hqr3_1_29 => exact fun _ _ _ h => h
              case hyr3_1_29 => (intro w hSw; (try dsimp only at hSw); go_simp; try with_reducible rfl)
              try simp only [Act.put, List.getElem_toArray, List.getElem_cons_succ, List.getElem_cons_zero, List.setIfInBounds_toArray, List.set_cons_zero, List.set_cons_succ]
              refine wpAnyH_take (i := 30) (oi := _) (v := ?vr3_1_30) rfl (by kernel_rfl) (by kernel_rfl) (by kernel_rfl) ?hqr3_1_30 (Or.inl ⟨by kernel_rfl, ?hyr3_1_30⟩) (by assumption) ?restr3_1_30
              case hqr3_1_30 => exact fun _ _ _ h => h
              case hyr3_1_30 => (intro w hSw; (try dsimp only at hSw); go_simp; try with_reducible rfl)
              try simp only [Act.put, List.getElem_toArray, List.getElem_cons_succ, List.getElem_cons_zero, List.setIfInBounds_toArray, List.set_cons_zero, List.set_cons_succ]
              refine wpAnyH_done (by kernel_rfl) ?_ _
              refine NoPanic.normal ?_
              have hfin := HB8.out.then_ (And.left (by assumption))
              go_wp2
              go_ret
              exact ⟨rfl, hfin⟩
        · have hn0 : (na + nb != 0) = true := by rw [bne_iff_ne]; exact hn
          clear hn hra hrb HGA HGB HPRE
          obtain ⟨A5, c5, rfl, -⟩ := HV5.out
          obtain ⟨A6, c6, rfl, -⟩ := HV6.out
          go_wp2_with (first | (go_at_call 41; refine (knum_any _ _).mono ?_; rintro e w' ⟨rfl, rfl⟩) | (go_at_call 36; refine (HW.out _ HX6.out).mono ?_; rintro e w11 ⟨rfl, hb11⟩))
          go_ret
          exact ⟨rfl, HX6.out.then_ hb11⟩
end Go.Proofs.YtkklmflclmgjeaaGreatDoor
