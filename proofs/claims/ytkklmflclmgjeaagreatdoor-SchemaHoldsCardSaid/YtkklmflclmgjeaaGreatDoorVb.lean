/-
  SchemaHolds, its walk.
-/
import Derived.Test.YtkklmflclmgjeaaGreatDoorVa
import Derived.Test.YtkklmflclmgjeaaGreatDoorSw
set_option linter.unusedVariables false
set_option linter.unusedSimpArgs false
set_option linter.unusedVariables false
set_option linter.unusedSimpArgs false
namespace Go.Proofs.YtkklmflclmgjeaaGreatDoor
open Go.RowKit Go.Shelf Go.Lib
attribute [local go_sem] Oper.semAt_some

theorem wide_at (z : Int) : ∀ h : (min 8 (max 0 z)).toNat < ([Value.int .i64 1, .int .i64 2, .int .i64 4, .int .i64 4, .int .i64 8, .int .i64 8, .int .i64 8, .int .i64 8, .int .i64 8] : List Value).length, ([Value.int .i64 1, .int .i64 2, .int .i64 4, .int .i64 4, .int .i64 8, .int .i64 8, .int .i64 8, .int .i64 8, .int .i64 8] : List Value)[(min 8 (max 0 z)).toNat]'h = .int .i64 (wideI z) := by
  unfold wideI
  intro h
  have h0 : 0 ≤ min 8 (max 0 z) := by omega
  have h1 : min 8 (max 0 z) ≤ 8 := by omega
  generalize min 8 (max 0 z) = k at *
  obtain ⟨n, rfl⟩ := Int.eq_ofNat_of_zero_le h0
  have hn : n ≤ 8 := by omega
  simp only [Int.toNat_natCast]
  have hc : n = 0 ∨ n = 1 ∨ n = 2 ∨ n = 3 ∨ n = 4 ∨ n = 5 ∨ n = 6 ∨ n = 7 ∨ n = 8 := by omega
  rcases hc with rfl | rfl | rfl | rfl | rfl | rfl | rfl | rfl | rfl <;> rfl
theorem wp_name {P : Program} {c : Code} {Q : Exit → Act → World → Prop} {a : Act} {w : World} (h : ∀ V, V = w → c.wp P Q a V) : c.wp P Q a w := h w rfl
set_option maxRecDepth 100000 in
set_option maxHeartbeats 40000000 in
theorem mHolds_any (vc vk vu vl : Value) (cols : List Col) (key : List Int) (uq : List (List Int)) (l : List Val) (w : World) (hg : ErrType w) (hc : ColsAt w vc cols) (hk : IntsAt w vk key) (hu : ListsAt w vu uq) (hl : ValsAt w vl l)
    (hnm : ∀ c ∈ cols, c.name.size ≤ maxLen) (hw : ∀ x ∈ l, x.Wf) (hsz : ∀ x ∈ l, x.b.size ≤ maxLen) : Calls Tryz.prog 6 #[.agg #[vc, vk, vu], vl] w fun e w' => e = .returned (.bool true) ∧ Bel w w' := by
  have HFW := Lib.hid (fun V (hb : Bel w V) => mfew_any vc vk vu cols key uq V (hc.bel hb) (hk.bel hb) (hu.bel hb) hnm)
  have HSH := Lib.hid (fun V (hb : Bel w V) => mshort_any vl l V (hl.bel hb) hsz)
  have HW := Lib.hid (fun V (hb : Bel w V) => mworks_any V (hg.bel hb))
  have HCK := Lib.hid (fun V (hb : Bel w V) => scCheck_any vc vk vu cols key uq V (hc.bel hb) (hk.bel hb) (hu.bel hb))
  have HSR := Lib.hid (fun V (hb : Bel w V) => scRow_any vc vk vu vl cols key uq l V (hg.bel hb) (hc.bel hb) (hk.bel hb) (hu.bel hb) (hl.bel hb) hw)
  have HSF := Lib.hid (fun V (hb : Bel w V) (c : Col) (x : Val) (hx : x.Wf) => scFits_any c x hx V (hg.bel hb))
  have HWF := Lib.hid hw
  have HPK := Lib.hid (fun V (hb : Bel w V) (hm : key.length ≤ 1000) => scPick_any vl vk l key V (hl.bel hb) (hk.bel hb) hm)
  obtain ⟨Ac, cc, rfl, hcc, hmc, hrc⟩ := hc
  obtain ⟨Ak, ck, rfl, hck, hmk, -⟩ := hk
  obtain ⟨Al, cl, rfl, hcl, hml, hrl⟩ := hl
  have HCL : Hid (∀ V, Bel (w.alloc (.cells #[.slice Ac cols.length cc, .slice Ak key.length ck, vu] 26)) V → V.cell? ⟨w.heap.size, 0, none⟩ = some (.slice Ac cols.length cc) ∧ V.cell? ⟨w.heap.size, 1, none⟩ = some (.slice Ak key.length ck) ∧ V.cell? ⟨w.heap.size, 2, none⟩ = some vu) := fun V h => ⟨h.c (by go_simp), h.c (by go_simp), h.c (by go_simp)⟩
  have HRC := Lib.hid hrc
  have HRL := Lib.hid hrl
  have hcI : (cols.length : Int) ≤ 9223372036854775807 := by unfold maxLen at hmc; omega
  have hlI : (l.length : Int) ≤ 9223372036854775807 := by unfold maxLen at hml; omega
  have hkI0 : (key.length : Int) ≤ 9223372036854775807 := by unfold maxLen at hmk; omega
  have hb0 : Bel w (w.alloc (.cells #[.slice Ac cols.length cc, .slice Ak key.length ck, vu] 26)) := (Bel.refl w).alloc _
  clear hg hu hrc hrl hcc hck hcl hmc hmk hml hw hnm hsz
  cases hf : fewB cols key uq
  case false =>
    rw [hf] at HFW
    clear hf
    go_enter Tryz.func6, Tryz.ntmps6
    go_wp2_with (first | (go_at_call 14; refine (HFW.out _ hb0).mono ?_; rintro e w4 ⟨rfl, hb4⟩) | (go_at_call 16; refine (HW.out _ (hb0.then_ hb4)).mono ?_; rintro e w9 ⟨rfl, hb9⟩))
    go_ret
    exact ⟨rfl, (hb0.then_ hb4).then_ hb9⟩
  have hk1000 : key.length ≤ 1000 := by
    unfold fewB at hf
    rw [Bool.and_eq_true] at hf
    have := of_decide_eq_true hf.1
    omega
  rw [hf] at HFW
  clear hf
  cases hs : shortB l
  case false =>
    rw [hs] at HSH
    clear hs
    go_enter Tryz.func6, Tryz.ntmps6
    go_wp2_with (first | (go_at_call 14; refine (HFW.out _ hb0).mono ?_; rintro e w4 ⟨rfl, hb4⟩) | (go_at_call 15; refine (HSH.out _ (hb0.then_ hb4)).mono ?_; rintro e w' ⟨rfl, rfl⟩) | (go_at_call 16; refine (HW.out _ (hb0.then_ hb4)).mono ?_; rintro e w9 ⟨rfl, hb9⟩))
    go_ret
    exact ⟨rfl, (hb0.then_ hb4).then_ hb9⟩
  rw [hs] at HSH
  clear hs
  cases hr : rightS cols key uq
  case false =>
    rw [hr] at HCK
    simp only [Bool.false_eq_true, if_false] at HCK
    clear hr
    go_enter Tryz.func6, Tryz.ntmps6
    go_wp2_with (first | (go_at_call 14; refine (HFW.out _ hb0).mono ?_; rintro e w4 ⟨rfl, hb4⟩; obtain ⟨c0, c1, c2⟩ := HCL.out _ hb4) | (go_at_call 15; refine (HSH.out _ (hb0.then_ hb4)).mono ?_; rintro e w' ⟨rfl, rfl⟩) | (go_at_call 25; refine (HCK.out _ (hb0.then_ hb4)).mono ?_; rintro e w6 ⟨rfl, hb6⟩) | (go_at_call 17; refine (mnum_any _ _).mono ?_; rintro e w' ⟨rfl, rfl⟩) | (go_at_call 16; refine (HW.out _ ((hb0.then_ hb4).then_ hb6)).mono ?_; rintro e w9 ⟨rfl, hb9⟩))
    go_ret
    exact ⟨rfl, ((hb0.then_ hb4).then_ hb6).then_ hb9⟩
  rw [hr] at HCK
  simp only [if_true] at HCK
  have HRA := Lib.hid (row_all (cols := cols) (key := key) (uq := uq) (l := l) hr)
  have HKF := Lib.hid (fun h => key_fine (cols := cols) (key := key) (uq := uq) (l := l) hr h)
  clear hr
  have hbe : ((l.length : Int) == cols.length) = allFit cols l 0 := by rw [allFit_zero, Bool.eq_iff_iff]; simp; omega
  generalize rowAll cols key uq l = ra at *
  obtain ⟨pv, hpv⟩ : ∃ pv, pv = pickR l key := ⟨_, rfl⟩
  rw [← hpv] at HPK HKF
  clear hpv
  go_enter Tryz.func6, Tryz.ntmps6
  go_wp2_with (first | (go_at_call 14; refine (HFW.out _ hb0).mono ?_; rintro e w4 ⟨rfl, hb4⟩; obtain ⟨c0, c1, c2⟩ := HCL.out _ hb4) | (go_at_call 15; refine (HSH.out _ (hb0.then_ hb4)).mono ?_; rintro e w' ⟨rfl, rfl⟩) | (go_at_call 25; refine (HCK.out _ (hb0.then_ hb4)).mono ?_; rintro e w6 ⟨rfl, hb6⟩; obtain ⟨d0, d1, d2⟩ := HCL.out _ (hb4.then_ hb6)) | (go_at_call 17; refine (mnum_any _ _).mono ?_; rintro e w' ⟨rfl, rfl⟩))
  have HB6 := Lib.hid (hb4.then_ hb6)
  have HW6 := Lib.hid (hb0.then_ (hb4.then_ hb6))
  clear hb0 hb4 hb6 c0 c1 c2 d0 d1 d2 hbe
  go_loopw [5, 6] (fun all i wr => ∃ k : Nat, k ≤ l.length ∧ k ≤ cols.length ∧ i = .int .i64 k ∧ all = .bool (allFit cols l k) ∧ Hid (Bel w6 wr)) (fun _ i _ => l.length - (intOf i).toNat)
  case atStart => exact ⟨0, Nat.zero_le _, Nat.zero_le _, rfl, rfl, Bel.refl w6⟩
  case round =>
    obtain ⟨k, hkl, hkc, rfl, rfl, HB⟩ := hrel
    obtain ⟨wo, rfl⟩ : ∃ wo : World, wo = wr := ⟨_, rfl⟩
    obtain ⟨l0, l1, l2⟩ := HCL.out _ (HB6.out.then_ HB.out)
    have HBW := Lib.hid (HW6.out.then_ HB.out)
    have HB0 := Lib.hid (HB6.out.then_ HB.out)
    by_cases h1 : k < l.length
    · by_cases h2 : k < cols.length
      · obtain ⟨x, hx⟩ : ∃ x, l[k]? = some x := ⟨_, List.getElem?_eq_getElem h1⟩
        obtain ⟨c, hc⟩ : ∃ c, cols[k]? = some c := ⟨_, List.getElem?_eq_getElem h2⟩
        obtain ⟨bc, oc, rfl, hci⟩ := HRC.out (by omega)
        obtain ⟨bl, ol, rfl, hli⟩ := HRL.out (by omega)
        obtain ⟨q0, q1, q2, q3⟩ := hci k c hc
        obtain ⟨p0, p1, p2, p3⟩ := hli k x hx
        have c0 := HBW.out.c q0
        have c1 := HBW.out.c q1
        have c2 := HBW.out.c q2
        have c3 := HBW.out.c q3
        have hwf := HWF.out x (List.mem_of_getElem? hx)
        have hkI : (k : Int) < l.length := by omega
        have hkJ : (k : Int) < cols.length := by omega
        have hsu := allFit_succ cols l k
        rw [fitAt_at hc hx] at hsu
        have HSU := Lib.hid hsu
        have HGR := Lib.hid (fun h => fits_great (c := c) (x := x) h)
        have HF1 := Lib.hid (fun V (hb : Bel w V) => HSF.out V hb c x hwf)
        have HF2 := Lib.hid (fun V (hb : Bel w V) => HSF.out V hb c.great x hwf)
        have HE : Hid (∀ V, Bel w V → V.cell? ⟨bl, ol + k * 4, none⟩ = some (.int .i64 x.k) ∧ V.cell? ⟨bl, ol + k * 4 + 1, none⟩ = some (.int .i64 x.n) ∧ V.cell? ⟨bl, ol + k * 4 + 2, none⟩ = some (.int .u64 x.u) ∧ V.cell? ⟨bl, ol + k * 4 + 3, none⟩ = some (.string x.b)) := fun V h => ⟨h.c p0, h.c p1, h.c p2, h.c p3⟩
        have H1 := Lib.hid h1
        have H2 := Lib.hid h2
        have hmx := ite_max
        have hmn := ite_min
        clear hx hc hci hli q0 q1 q2 q3 p0 p1 p2 p3 hwf hsu h1 h2
        generalize fitsI c x = r at *
        unfold Col.great at HF2 HGR
        obtain ⟨cn, ct, cz, cnl⟩ := c
        obtain ⟨xk, xn, xu, xb⟩ := x
        unfold Col.v Val.v at HF1 HF2
        dsimp only at *
        have hbw1 : Bel w (wo.alloc (.cells #[.string cn, .int .i64 ct, .int .i64 cz, .bool cnl] 44)) := HBW.out.alloc _
        have hS : ∀ V, Bel (wo.alloc (.cells #[.string cn, .int .i64 ct, .int .i64 cz, .bool cnl] 44)) V → (fun V : World => Bel (wo.alloc (.cells #[.string cn, .int .i64 ct, .int .i64 cz, .bool cnl] 44)) V ∧ (V.cell? ⟨wo.heap.size, 0, none⟩ = some (.string cn) ∧ V.cell? ⟨wo.heap.size, 1, none⟩ = some (.int .i64 ct) ∧ V.cell? ⟨wo.heap.size, 2, none⟩ = some (.int .i64 cz) ∧ V.cell? ⟨wo.heap.size, 3, none⟩ = some (.bool cnl)) ∧ V.cell? ⟨bl, ol + k * 4, none⟩ = some (.int .i64 xk) ∧ V.cell? ⟨bl, ol + k * 4 + 1, none⟩ = some (.int .i64 xn) ∧ V.cell? ⟨bl, ol + k * 4 + 2, none⟩ = some (.int .u64 xu) ∧ V.cell? ⟨bl, ol + k * 4 + 3, none⟩ = some (.string xb)) V := fun V h => ⟨h, ⟨h.c (by go_simp), h.c (by go_simp), h.c (by go_simp), h.c (by go_simp)⟩, HE.out V (hbw1.then_ h)⟩
        have HFZ : Hid (∀ V, Bel (wo.alloc (.cells #[.string cn, .int .i64 ct, .int .i64 cz, .bool cnl] 44)) V → ∀ o, o < 4 → V.frozen? ⟨wo.heap.size, o, none⟩ = false) := fun V h o ho => (Below.frozen h (by simp)).trans (by simp)
        by_cases hr0 : r = 0
        · subst hr0
          have h0 := HGR.out rfl
          rw [h0] at HF2
          clear h0 HGR
          by_cases ht3 : ct = 3
          · subst ht3
            rw [show greatZ 3 cz = cz from rfl] at HF2
            cases ha : allFit cols l k
            · rw [ha] at HSU
              clear ha
              go_wp2_with fail
              refine wp_region_noPanic ?_
              refine wp_region_held_drew (S := (fun V : World => Bel (wo.alloc (.cells #[.string cn, .int .i64 3, .int .i64 cz, .bool cnl] 44)) V ∧ (V.cell? ⟨wo.heap.size, 0, none⟩ = some (.string cn) ∧ V.cell? ⟨wo.heap.size, 1, none⟩ = some (.int .i64 3) ∧ V.cell? ⟨wo.heap.size, 2, none⟩ = some (.int .i64 cz) ∧ V.cell? ⟨wo.heap.size, 3, none⟩ = some (.bool cnl)) ∧ V.cell? ⟨bl, ol + k * 4, none⟩ = some (.int .i64 xk) ∧ V.cell? ⟨bl, ol + k * 4 + 1, none⟩ = some (.int .i64 xn) ∧ V.cell? ⟨bl, ol + k * 4 + 2, none⟩ = some (.int .u64 xu) ∧ V.cell? ⟨bl, ol + k * 4 + 3, none⟩ = some (.string xb))) (by kernel_rfl) ?_ (fun hHr1_0 => ?_)
              · (try dsimp only); (first | assumption | exact hS _ (Bel.refl _).drew | exact hS _ (Bel.then_ (And.left (by assumption)) hb7))
              refine wpAnyH_take (i := 0) (oi := _) (v := ?vr1_1_0) rfl (by kernel_rfl) (by kernel_rfl) (by kernel_rfl) ?hqr1_1_0 (Or.inl ⟨by kernel_rfl, ?hyr1_1_0⟩) (by assumption) ?restr1_1_0
              case hqr1_1_0 => exact fun _ _ _ h => h
              case hyr1_1_0 => (intro w hSw; (try dsimp only at hSw); go_simp; try with_reducible rfl)
              try simp only [Act.put, List.getElem_toArray, List.getElem_cons_succ, List.getElem_cons_zero, List.setIfInBounds_toArray, List.set_cons_zero, List.set_cons_succ]
              refine wpAnyH_take (i := 1) (oi := _) (v := ?vr1_1_1) rfl (by kernel_rfl) (by kernel_rfl) (by kernel_rfl) ?hqr1_1_1 (Or.inl ⟨by kernel_rfl, ?hyr1_1_1⟩) (by assumption) ?restr1_1_1
              case hqr1_1_1 => exact fun _ _ _ h => h
              case hyr1_1_1 => (intro w hSw; (try dsimp only at hSw); go_simp; try with_reducible rfl)
              try simp only [Act.put, List.getElem_toArray, List.getElem_cons_succ, List.getElem_cons_zero, List.setIfInBounds_toArray, List.set_cons_zero, List.set_cons_succ]
              refine wpAnyH_take (i := 2) (oi := _) (v := ?vr1_1_2) rfl (by kernel_rfl) (by kernel_rfl) (by kernel_rfl) ?hqr1_1_2 (Or.inl ⟨by kernel_rfl, ?hyr1_1_2⟩) (by assumption) ?restr1_1_2
              case hqr1_1_2 => exact fun _ _ _ h => h
              case hyr1_1_2 => (intro w hSw; (try dsimp only at hSw); go_simp; try with_reducible rfl)
              try simp only [Act.put, List.getElem_toArray, List.getElem_cons_succ, List.getElem_cons_zero, List.setIfInBounds_toArray, List.set_cons_zero, List.set_cons_succ]
              refine wpAnyH_take (i := 3) (oi := _) (v := ?vr1_1_3) rfl (by kernel_rfl) (by kernel_rfl) (by kernel_rfl) ?hqr1_1_3 (Or.inl ⟨by kernel_rfl, ?hyr1_1_3⟩) (by assumption) ?restr1_1_3
              case hqr1_1_3 => exact fun _ _ _ h => h
              case hyr1_1_3 => (intro w hSw; (try dsimp only at hSw); go_simp; try with_reducible rfl)
              try simp only [Act.put, List.getElem_toArray, List.getElem_cons_succ, List.getElem_cons_zero, List.setIfInBounds_toArray, List.set_cons_zero, List.set_cons_succ]
              refine wpAnyH_take (i := 4) (oi := _) (v := ?vr1_1_4) rfl (by kernel_rfl) (by kernel_rfl) (by kernel_rfl) ?hqr1_1_4 (Or.inl ⟨by kernel_rfl, ?hyr1_1_4⟩) (by assumption) ?restr1_1_4
              case hqr1_1_4 => exact fun _ _ _ h => h
              case hyr1_1_4 => (intro w hSw; (try dsimp only at hSw); go_simp; try with_reducible rfl)
              try simp only [Act.put, List.getElem_toArray, List.getElem_cons_succ, List.getElem_cons_zero, List.setIfInBounds_toArray, List.set_cons_zero, List.set_cons_succ]
              refine wpAnyH_ready (rs := [5]) (by kernel_rfl) (by simp) ?_
              refine AllReadyH.cons (o := _) rfl (fun K hK => ?_) AllReadyH.nil
              go_simp
              (go_at_call 23; refine (HF1.out _ (hbw1.then_ (And.left (by assumption)))).mono ?_; rintro e w7 ⟨rfl, hb7⟩)
              try (go_wp2_with fail)
              refine hK.out _ _ ?_ (fun hHr1_1 => ?_)
              · (try dsimp only); (first | assumption | exact hS _ (Bel.refl _).drew | exact hS _ (Bel.then_ (And.left (by assumption)) hb7))
              clear hK K hHr1_0
              try simp only [Act.put, List.getElem_toArray, List.getElem_cons_succ, List.getElem_cons_zero, List.setIfInBounds_toArray, List.set_cons_zero, List.set_cons_succ]
              refine wpAnyH_ready (rs := [6]) (by kernel_rfl) (by simp) ?_
              refine AllReadyH.cons (o := _) rfl (fun K hK => ?_) AllReadyH.nil
              go_simp
              (go_at_call 17; refine (mnum_any _ _).mono ?_; rintro e w' ⟨rfl, rfl⟩)
              try (go_wp2_with fail)
              refine hK.out _ _ ?_ (fun hHr1_2 => ?_)
              · (try dsimp only); (first | assumption | exact hS _ (Bel.refl _).drew | exact hS _ (Bel.then_ (And.left (by assumption)) hb7))
              clear hK K hHr1_1
              try simp only [Act.put, List.getElem_toArray, List.getElem_cons_succ, List.getElem_cons_zero, List.setIfInBounds_toArray, List.set_cons_zero, List.set_cons_succ]
              refine wpAnyH_take (i := 7) (oi := _) (v := ?vr1_1_7) rfl (by kernel_rfl) (by kernel_rfl) (by kernel_rfl) ?hqr1_1_7 (Or.inl ⟨by kernel_rfl, ?hyr1_1_7⟩) (by assumption) ?restr1_1_7
              case hqr1_1_7 => exact fun _ _ _ h => h
              case hyr1_1_7 => (intro w hSw; (try dsimp only at hSw); go_simp; try with_reducible rfl)
              try simp only [Act.put, List.getElem_toArray, List.getElem_cons_succ, List.getElem_cons_zero, List.setIfInBounds_toArray, List.set_cons_zero, List.set_cons_succ]
              refine wpAnyH_take (i := 8) (oi := _) (v := ?vr1_1_8) rfl (by kernel_rfl) (by kernel_rfl) (by kernel_rfl) ?hqr1_1_8 (Or.inl ⟨by kernel_rfl, ?hyr1_1_8⟩) (by assumption) ?restr1_1_8
              case hqr1_1_8 => exact fun _ _ _ h => h
              case hyr1_1_8 => (intro w hSw; (try dsimp only at hSw); go_simp; try with_reducible rfl)
              try simp only [Act.put, List.getElem_toArray, List.getElem_cons_succ, List.getElem_cons_zero, List.setIfInBounds_toArray, List.set_cons_zero, List.set_cons_succ]
              refine wpAnyH_done (by kernel_rfl) ?_ _
              refine NoPanic.normal ?_
              obtain ⟨hfin, ⟨d0, d1, d2, d3⟩, e0, e1, e2, e3⟩ : (fun V : World => Bel (wo.alloc (.cells #[.string cn, .int .i64 3, .int .i64 cz, .bool cnl] 44)) V ∧ (V.cell? ⟨wo.heap.size, 0, none⟩ = some (.string cn) ∧ V.cell? ⟨wo.heap.size, 1, none⟩ = some (.int .i64 3) ∧ V.cell? ⟨wo.heap.size, 2, none⟩ = some (.int .i64 cz) ∧ V.cell? ⟨wo.heap.size, 3, none⟩ = some (.bool cnl)) ∧ V.cell? ⟨bl, ol + k * 4, none⟩ = some (.int .i64 xk) ∧ V.cell? ⟨bl, ol + k * 4 + 1, none⟩ = some (.int .i64 xn) ∧ V.cell? ⟨bl, ol + k * 4 + 2, none⟩ = some (.int .u64 xu) ∧ V.cell? ⟨bl, ol + k * 4 + 3, none⟩ = some (.string xb)) _ := (by assumption)
              have z2 := HFZ.out _ hfin 2 (by omega)
              have z3 := HFZ.out _ hfin 3 (by omega)
              have hlt9 : wo.heap.size < w7.heap.size := by have := hfin.size; simp at this; omega
              have hbo : Bel wo w7 := ((Bel.refl wo).alloc _).then_ hfin
              go_wp2_with fail
              refine wp_name ?_
              intro W2 hW2
              have g0 : W2.cell? ⟨wo.heap.size, 0, none⟩ = some (.string cn) := by rw [hW2]; go_simp
              have g1 : W2.cell? ⟨wo.heap.size, 1, none⟩ = some (.int .i64 3) := by rw [hW2]; go_simp
              skip
              have g2 : W2.cell? ⟨wo.heap.size, 2, none⟩ = some (.int .i64 cz) := by rw [hW2]; go_simp
              have g3 : W2.cell? ⟨wo.heap.size, 3, none⟩ = some (.bool true) := by rw [hW2]; go_simp
              have hbo2 : Bel wo W2 := by rw [hW2]; (repeat (first | exact hbo | refine Bel.alloc ?_ _ | refine Bel.setCell ?_ (by simp) _))
              have hbw2 : Bel w W2 := HBW.out.then_ hbo2
              have hQ2 : ∀ V, Bel W2 V → (fun V : World => Bel W2 V ∧ (V.cell? ⟨wo.heap.size, 0, none⟩ = some (.string cn) ∧ V.cell? ⟨wo.heap.size, 1, none⟩ = some (.int .i64 3) ∧ V.cell? ⟨wo.heap.size, 2, none⟩ = some (.int .i64 cz) ∧ V.cell? ⟨wo.heap.size, 3, none⟩ = some (.bool true)) ∧ V.cell? ⟨bl, ol + k * 4, none⟩ = some (.int .i64 xk) ∧ V.cell? ⟨bl, ol + k * 4 + 1, none⟩ = some (.int .i64 xn) ∧ V.cell? ⟨bl, ol + k * 4 + 2, none⟩ = some (.int .u64 xu) ∧ V.cell? ⟨bl, ol + k * 4 + 3, none⟩ = some (.string xb)) V := fun V h => ⟨h, ⟨h.c g0, h.c g1, h.c g2, h.c g3⟩, HE.out V (hbw2.then_ h)⟩
              clear hW2 hfin d0 d1 d2 d3 e0 e1 e2 e3 z2 z3 hlt9 hbo
              refine wp_region_noPanic ?_
              refine wp_region_held_drew (S := (fun V : World => Bel W2 V ∧ (V.cell? ⟨wo.heap.size, 0, none⟩ = some (.string cn) ∧ V.cell? ⟨wo.heap.size, 1, none⟩ = some (.int .i64 3) ∧ V.cell? ⟨wo.heap.size, 2, none⟩ = some (.int .i64 cz) ∧ V.cell? ⟨wo.heap.size, 3, none⟩ = some (.bool true)) ∧ V.cell? ⟨bl, ol + k * 4, none⟩ = some (.int .i64 xk) ∧ V.cell? ⟨bl, ol + k * 4 + 1, none⟩ = some (.int .i64 xn) ∧ V.cell? ⟨bl, ol + k * 4 + 2, none⟩ = some (.int .u64 xu) ∧ V.cell? ⟨bl, ol + k * 4 + 3, none⟩ = some (.string xb))) (by kernel_rfl) ?_ (fun hHr2_0 => ?_)
              · (try dsimp only); (first | assumption | exact hQ2 _ (Bel.refl _).drew | exact hQ2 _ (Bel.then_ (And.left (by assumption)) hb8))
              refine wpAnyH_take (i := 0) (oi := _) (v := ?vr2_1_0) rfl (by kernel_rfl) (by kernel_rfl) (by kernel_rfl) ?hqr2_1_0 (Or.inl ⟨by kernel_rfl, ?hyr2_1_0⟩) (by assumption) ?restr2_1_0
              case hqr2_1_0 => exact fun _ _ _ h => h
              case hyr2_1_0 => (intro w hSw; (try dsimp only at hSw); go_simp; try with_reducible rfl)
              try simp only [Act.put, List.getElem_toArray, List.getElem_cons_succ, List.getElem_cons_zero, List.setIfInBounds_toArray, List.set_cons_zero, List.set_cons_succ]
              refine wpAnyH_take (i := 1) (oi := _) (v := ?vr2_1_1) rfl (by kernel_rfl) (by kernel_rfl) (by kernel_rfl) ?hqr2_1_1 (Or.inl ⟨by kernel_rfl, ?hyr2_1_1⟩) (by assumption) ?restr2_1_1
              case hqr2_1_1 => exact fun _ _ _ h => h
              case hyr2_1_1 => (intro w hSw; (try dsimp only at hSw); go_simp; try with_reducible rfl)
              try simp only [Act.put, List.getElem_toArray, List.getElem_cons_succ, List.getElem_cons_zero, List.setIfInBounds_toArray, List.set_cons_zero, List.set_cons_succ]
              refine wpAnyH_take (i := 2) (oi := _) (v := ?vr2_1_2) rfl (by kernel_rfl) (by kernel_rfl) (by kernel_rfl) ?hqr2_1_2 (Or.inl ⟨by kernel_rfl, ?hyr2_1_2⟩) (by assumption) ?restr2_1_2
              case hqr2_1_2 => exact fun _ _ _ h => h
              case hyr2_1_2 => (intro w hSw; (try dsimp only at hSw); go_simp; try with_reducible rfl)
              try simp only [Act.put, List.getElem_toArray, List.getElem_cons_succ, List.getElem_cons_zero, List.setIfInBounds_toArray, List.set_cons_zero, List.set_cons_succ]
              refine wpAnyH_take (i := 3) (oi := _) (v := ?vr2_1_3) rfl (by kernel_rfl) (by kernel_rfl) (by kernel_rfl) ?hqr2_1_3 (Or.inl ⟨by kernel_rfl, ?hyr2_1_3⟩) (by assumption) ?restr2_1_3
              case hqr2_1_3 => exact fun _ _ _ h => h
              case hyr2_1_3 => (intro w hSw; (try dsimp only at hSw); go_simp; try with_reducible rfl)
              try simp only [Act.put, List.getElem_toArray, List.getElem_cons_succ, List.getElem_cons_zero, List.setIfInBounds_toArray, List.set_cons_zero, List.set_cons_succ]
              refine wpAnyH_take (i := 4) (oi := _) (v := ?vr2_1_4) rfl (by kernel_rfl) (by kernel_rfl) (by kernel_rfl) ?hqr2_1_4 (Or.inl ⟨by kernel_rfl, ?hyr2_1_4⟩) (by assumption) ?restr2_1_4
              case hqr2_1_4 => exact fun _ _ _ h => h
              case hyr2_1_4 => (intro w hSw; (try dsimp only at hSw); go_simp; try with_reducible rfl)
              try simp only [Act.put, List.getElem_toArray, List.getElem_cons_succ, List.getElem_cons_zero, List.setIfInBounds_toArray, List.set_cons_zero, List.set_cons_succ]
              refine wpAnyH_take (i := 5) (oi := _) (v := ?vr2_1_5) rfl (by kernel_rfl) (by kernel_rfl) (by kernel_rfl) ?hqr2_1_5 (Or.inl ⟨by kernel_rfl, ?hyr2_1_5⟩) (by assumption) ?restr2_1_5
              case hqr2_1_5 => exact fun _ _ _ h => h
              case hyr2_1_5 => (intro w hSw; (try dsimp only at hSw); go_simp; try with_reducible rfl)
              try simp only [Act.put, List.getElem_toArray, List.getElem_cons_succ, List.getElem_cons_zero, List.setIfInBounds_toArray, List.set_cons_zero, List.set_cons_succ]
              refine wpAnyH_take (i := 6) (oi := _) (v := ?vr2_1_6) rfl (by kernel_rfl) (by kernel_rfl) (by kernel_rfl) ?hqr2_1_6 (Or.inl ⟨by kernel_rfl, ?hyr2_1_6⟩) (by assumption) ?restr2_1_6
              case hqr2_1_6 => exact fun _ _ _ h => h
              case hyr2_1_6 => (intro w hSw; (try dsimp only at hSw); go_simp; try with_reducible rfl)
              try simp only [Act.put, List.getElem_toArray, List.getElem_cons_succ, List.getElem_cons_zero, List.setIfInBounds_toArray, List.set_cons_zero, List.set_cons_succ]
              refine wpAnyH_ready (rs := [7]) (by kernel_rfl) (by simp) ?_
              refine AllReadyH.cons (o := _) rfl (fun K hK => ?_) AllReadyH.nil
              go_simp
              (go_at_call 23; refine (HF2.out _ (hbw2.then_ (And.left (by assumption)))).mono ?_; rintro e w8 ⟨rfl, hb8⟩)
              try (go_wp2_with fail)
              refine hK.out _ _ ?_ (fun hHr2_1 => ?_)
              · (try dsimp only); (first | assumption | exact hQ2 _ (Bel.refl _).drew | exact hQ2 _ (Bel.then_ (And.left (by assumption)) hb8))
              clear hK K hHr2_0
              try simp only [Act.put, List.getElem_toArray, List.getElem_cons_succ, List.getElem_cons_zero, List.setIfInBounds_toArray, List.set_cons_zero, List.set_cons_succ]
              refine wpAnyH_ready (rs := [8]) (by kernel_rfl) (by simp) ?_
              refine AllReadyH.cons (o := _) rfl (fun K hK => ?_) AllReadyH.nil
              go_simp
              (go_at_call 17; refine (mnum_any _ _).mono ?_; rintro e w' ⟨rfl, rfl⟩)
              try (go_wp2_with fail)
              refine hK.out _ _ ?_ (fun hHr2_2 => ?_)
              · (try dsimp only); (first | assumption | exact hQ2 _ (Bel.refl _).drew | exact hQ2 _ (Bel.then_ (And.left (by assumption)) hb8))
              clear hK K hHr2_1
              try simp only [Act.put, List.getElem_toArray, List.getElem_cons_succ, List.getElem_cons_zero, List.setIfInBounds_toArray, List.set_cons_zero, List.set_cons_succ]
              refine wpAnyH_take (i := 9) (oi := _) (v := ?vr2_1_9) rfl (by kernel_rfl) (by kernel_rfl) (by kernel_rfl) ?hqr2_1_9 (Or.inl ⟨by kernel_rfl, ?hyr2_1_9⟩) (by assumption) ?restr2_1_9
              case hqr2_1_9 => exact fun _ _ _ h => h
              case hyr2_1_9 => (intro w hSw; (try dsimp only at hSw); go_simp; try with_reducible rfl)
              try simp only [Act.put, List.getElem_toArray, List.getElem_cons_succ, List.getElem_cons_zero, List.setIfInBounds_toArray, List.set_cons_zero, List.set_cons_succ]
              refine wpAnyH_take (i := 10) (oi := _) (v := ?vr2_1_10) rfl (by kernel_rfl) (by kernel_rfl) (by kernel_rfl) ?hqr2_1_10 (Or.inl ⟨by kernel_rfl, ?hyr2_1_10⟩) (by assumption) ?restr2_1_10
              case hqr2_1_10 => exact fun _ _ _ h => h
              case hyr2_1_10 => (intro w hSw; (try dsimp only at hSw); go_simp; try with_reducible rfl)
              try simp only [Act.put, List.getElem_toArray, List.getElem_cons_succ, List.getElem_cons_zero, List.setIfInBounds_toArray, List.set_cons_zero, List.set_cons_succ]
              refine wpAnyH_done (by kernel_rfl) ?_ _
              refine NoPanic.normal ?_
              have hfin2 : Bel wo _ := hbo2.then_ (And.left (by assumption))
              go_wp2_with fail
              go_roundw
              case rel => exact ⟨k + 1, by have := H1.out; omega, by have := H2.out; omega, by go_num, by rw [HSU.out]; first | rfl | simp, HB.out.then_ hfin2⟩
              case measure => have := H1.out; simp [intOf]; omega
            · rw [ha] at HSU
              clear ha
              go_wp2_with fail
              refine wp_region_noPanic ?_
              refine wp_region_held_drew (S := (fun V : World => Bel (wo.alloc (.cells #[.string cn, .int .i64 3, .int .i64 cz, .bool cnl] 44)) V ∧ (V.cell? ⟨wo.heap.size, 0, none⟩ = some (.string cn) ∧ V.cell? ⟨wo.heap.size, 1, none⟩ = some (.int .i64 3) ∧ V.cell? ⟨wo.heap.size, 2, none⟩ = some (.int .i64 cz) ∧ V.cell? ⟨wo.heap.size, 3, none⟩ = some (.bool cnl)) ∧ V.cell? ⟨bl, ol + k * 4, none⟩ = some (.int .i64 xk) ∧ V.cell? ⟨bl, ol + k * 4 + 1, none⟩ = some (.int .i64 xn) ∧ V.cell? ⟨bl, ol + k * 4 + 2, none⟩ = some (.int .u64 xu) ∧ V.cell? ⟨bl, ol + k * 4 + 3, none⟩ = some (.string xb))) (by kernel_rfl) ?_ (fun hHr3_0 => ?_)
              · (try dsimp only); (first | assumption | exact hS _ (Bel.refl _).drew | exact hS _ (Bel.then_ (And.left (by assumption)) hb7))
              refine wpAnyH_take (i := 0) (oi := _) (v := ?vr3_1_0) rfl (by kernel_rfl) (by kernel_rfl) (by kernel_rfl) ?hqr3_1_0 (Or.inl ⟨by kernel_rfl, ?hyr3_1_0⟩) (by assumption) ?restr3_1_0
              case hqr3_1_0 => exact fun _ _ _ h => h
              case hyr3_1_0 => (intro w hSw; (try dsimp only at hSw); go_simp; try with_reducible rfl)
              try simp only [Act.put, List.getElem_toArray, List.getElem_cons_succ, List.getElem_cons_zero, List.setIfInBounds_toArray, List.set_cons_zero, List.set_cons_succ]
              refine wpAnyH_take (i := 1) (oi := _) (v := ?vr3_1_1) rfl (by kernel_rfl) (by kernel_rfl) (by kernel_rfl) ?hqr3_1_1 (Or.inl ⟨by kernel_rfl, ?hyr3_1_1⟩) (by assumption) ?restr3_1_1
              case hqr3_1_1 => exact fun _ _ _ h => h
              case hyr3_1_1 => (intro w hSw; (try dsimp only at hSw); go_simp; try with_reducible rfl)
              try simp only [Act.put, List.getElem_toArray, List.getElem_cons_succ, List.getElem_cons_zero, List.setIfInBounds_toArray, List.set_cons_zero, List.set_cons_succ]
              refine wpAnyH_take (i := 2) (oi := _) (v := ?vr3_1_2) rfl (by kernel_rfl) (by kernel_rfl) (by kernel_rfl) ?hqr3_1_2 (Or.inl ⟨by kernel_rfl, ?hyr3_1_2⟩) (by assumption) ?restr3_1_2
              case hqr3_1_2 => exact fun _ _ _ h => h
              case hyr3_1_2 => (intro w hSw; (try dsimp only at hSw); go_simp; try with_reducible rfl)
              try simp only [Act.put, List.getElem_toArray, List.getElem_cons_succ, List.getElem_cons_zero, List.setIfInBounds_toArray, List.set_cons_zero, List.set_cons_succ]
              refine wpAnyH_take (i := 3) (oi := _) (v := ?vr3_1_3) rfl (by kernel_rfl) (by kernel_rfl) (by kernel_rfl) ?hqr3_1_3 (Or.inl ⟨by kernel_rfl, ?hyr3_1_3⟩) (by assumption) ?restr3_1_3
              case hqr3_1_3 => exact fun _ _ _ h => h
              case hyr3_1_3 => (intro w hSw; (try dsimp only at hSw); go_simp; try with_reducible rfl)
              try simp only [Act.put, List.getElem_toArray, List.getElem_cons_succ, List.getElem_cons_zero, List.setIfInBounds_toArray, List.set_cons_zero, List.set_cons_succ]
              refine wpAnyH_take (i := 4) (oi := _) (v := ?vr3_1_4) rfl (by kernel_rfl) (by kernel_rfl) (by kernel_rfl) ?hqr3_1_4 (Or.inl ⟨by kernel_rfl, ?hyr3_1_4⟩) (by assumption) ?restr3_1_4
              case hqr3_1_4 => exact fun _ _ _ h => h
              case hyr3_1_4 => (intro w hSw; (try dsimp only at hSw); go_simp; try with_reducible rfl)
              try simp only [Act.put, List.getElem_toArray, List.getElem_cons_succ, List.getElem_cons_zero, List.setIfInBounds_toArray, List.set_cons_zero, List.set_cons_succ]
              refine wpAnyH_ready (rs := [5]) (by kernel_rfl) (by simp) ?_
              refine AllReadyH.cons (o := _) rfl (fun K hK => ?_) AllReadyH.nil
              go_simp
              (go_at_call 23; refine (HF1.out _ (hbw1.then_ (And.left (by assumption)))).mono ?_; rintro e w7 ⟨rfl, hb7⟩)
              try (go_wp2_with fail)
              refine hK.out _ _ ?_ (fun hHr3_1 => ?_)
              · (try dsimp only); (first | assumption | exact hS _ (Bel.refl _).drew | exact hS _ (Bel.then_ (And.left (by assumption)) hb7))
              clear hK K hHr3_0
              try simp only [Act.put, List.getElem_toArray, List.getElem_cons_succ, List.getElem_cons_zero, List.setIfInBounds_toArray, List.set_cons_zero, List.set_cons_succ]
              refine wpAnyH_ready (rs := [6]) (by kernel_rfl) (by simp) ?_
              refine AllReadyH.cons (o := _) rfl (fun K hK => ?_) AllReadyH.nil
              go_simp
              (go_at_call 17; refine (mnum_any _ _).mono ?_; rintro e w' ⟨rfl, rfl⟩)
              try (go_wp2_with fail)
              refine hK.out _ _ ?_ (fun hHr3_2 => ?_)
              · (try dsimp only); (first | assumption | exact hS _ (Bel.refl _).drew | exact hS _ (Bel.then_ (And.left (by assumption)) hb7))
              clear hK K hHr3_1
              try simp only [Act.put, List.getElem_toArray, List.getElem_cons_succ, List.getElem_cons_zero, List.setIfInBounds_toArray, List.set_cons_zero, List.set_cons_succ]
              refine wpAnyH_take (i := 7) (oi := _) (v := ?vr3_1_7) rfl (by kernel_rfl) (by kernel_rfl) (by kernel_rfl) ?hqr3_1_7 (Or.inl ⟨by kernel_rfl, ?hyr3_1_7⟩) (by assumption) ?restr3_1_7
              case hqr3_1_7 => exact fun _ _ _ h => h
              case hyr3_1_7 => (intro w hSw; (try dsimp only at hSw); go_simp; try with_reducible rfl)
              try simp only [Act.put, List.getElem_toArray, List.getElem_cons_succ, List.getElem_cons_zero, List.setIfInBounds_toArray, List.set_cons_zero, List.set_cons_succ]
              refine wpAnyH_take (i := 8) (oi := _) (v := ?vr3_1_8) rfl (by kernel_rfl) (by kernel_rfl) (by kernel_rfl) ?hqr3_1_8 (Or.inl ⟨by kernel_rfl, ?hyr3_1_8⟩) (by assumption) ?restr3_1_8
              case hqr3_1_8 => exact fun _ _ _ h => h
              case hyr3_1_8 => (intro w hSw; (try dsimp only at hSw); go_simp; try with_reducible rfl)
              try simp only [Act.put, List.getElem_toArray, List.getElem_cons_succ, List.getElem_cons_zero, List.setIfInBounds_toArray, List.set_cons_zero, List.set_cons_succ]
              refine wpAnyH_done (by kernel_rfl) ?_ _
              refine NoPanic.normal ?_
              obtain ⟨hfin, ⟨d0, d1, d2, d3⟩, e0, e1, e2, e3⟩ : (fun V : World => Bel (wo.alloc (.cells #[.string cn, .int .i64 3, .int .i64 cz, .bool cnl] 44)) V ∧ (V.cell? ⟨wo.heap.size, 0, none⟩ = some (.string cn) ∧ V.cell? ⟨wo.heap.size, 1, none⟩ = some (.int .i64 3) ∧ V.cell? ⟨wo.heap.size, 2, none⟩ = some (.int .i64 cz) ∧ V.cell? ⟨wo.heap.size, 3, none⟩ = some (.bool cnl)) ∧ V.cell? ⟨bl, ol + k * 4, none⟩ = some (.int .i64 xk) ∧ V.cell? ⟨bl, ol + k * 4 + 1, none⟩ = some (.int .i64 xn) ∧ V.cell? ⟨bl, ol + k * 4 + 2, none⟩ = some (.int .u64 xu) ∧ V.cell? ⟨bl, ol + k * 4 + 3, none⟩ = some (.string xb)) _ := (by assumption)
              have z2 := HFZ.out _ hfin 2 (by omega)
              have z3 := HFZ.out _ hfin 3 (by omega)
              have hlt9 : wo.heap.size < w7.heap.size := by have := hfin.size; simp at this; omega
              have hbo : Bel wo w7 := ((Bel.refl wo).alloc _).then_ hfin
              go_wp2_with fail
              refine wp_name ?_
              intro W2 hW2
              have g0 : W2.cell? ⟨wo.heap.size, 0, none⟩ = some (.string cn) := by rw [hW2]; go_simp
              have g1 : W2.cell? ⟨wo.heap.size, 1, none⟩ = some (.int .i64 3) := by rw [hW2]; go_simp
              skip
              have g2 : W2.cell? ⟨wo.heap.size, 2, none⟩ = some (.int .i64 cz) := by rw [hW2]; go_simp
              have g3 : W2.cell? ⟨wo.heap.size, 3, none⟩ = some (.bool true) := by rw [hW2]; go_simp
              have hbo2 : Bel wo W2 := by rw [hW2]; (repeat (first | exact hbo | refine Bel.alloc ?_ _ | refine Bel.setCell ?_ (by simp) _))
              have hbw2 : Bel w W2 := HBW.out.then_ hbo2
              have hQ2 : ∀ V, Bel W2 V → (fun V : World => Bel W2 V ∧ (V.cell? ⟨wo.heap.size, 0, none⟩ = some (.string cn) ∧ V.cell? ⟨wo.heap.size, 1, none⟩ = some (.int .i64 3) ∧ V.cell? ⟨wo.heap.size, 2, none⟩ = some (.int .i64 cz) ∧ V.cell? ⟨wo.heap.size, 3, none⟩ = some (.bool true)) ∧ V.cell? ⟨bl, ol + k * 4, none⟩ = some (.int .i64 xk) ∧ V.cell? ⟨bl, ol + k * 4 + 1, none⟩ = some (.int .i64 xn) ∧ V.cell? ⟨bl, ol + k * 4 + 2, none⟩ = some (.int .u64 xu) ∧ V.cell? ⟨bl, ol + k * 4 + 3, none⟩ = some (.string xb)) V := fun V h => ⟨h, ⟨h.c g0, h.c g1, h.c g2, h.c g3⟩, HE.out V (hbw2.then_ h)⟩
              clear hW2 hfin d0 d1 d2 d3 e0 e1 e2 e3 z2 z3 hlt9 hbo
              refine wp_region_noPanic ?_
              refine wp_region_held_drew (S := (fun V : World => Bel W2 V ∧ (V.cell? ⟨wo.heap.size, 0, none⟩ = some (.string cn) ∧ V.cell? ⟨wo.heap.size, 1, none⟩ = some (.int .i64 3) ∧ V.cell? ⟨wo.heap.size, 2, none⟩ = some (.int .i64 cz) ∧ V.cell? ⟨wo.heap.size, 3, none⟩ = some (.bool true)) ∧ V.cell? ⟨bl, ol + k * 4, none⟩ = some (.int .i64 xk) ∧ V.cell? ⟨bl, ol + k * 4 + 1, none⟩ = some (.int .i64 xn) ∧ V.cell? ⟨bl, ol + k * 4 + 2, none⟩ = some (.int .u64 xu) ∧ V.cell? ⟨bl, ol + k * 4 + 3, none⟩ = some (.string xb))) (by kernel_rfl) ?_ (fun hHr4_0 => ?_)
              · (try dsimp only); (first | assumption | exact hQ2 _ (Bel.refl _).drew | exact hQ2 _ (Bel.then_ (And.left (by assumption)) hb8))
              refine wpAnyH_take (i := 0) (oi := _) (v := ?vr4_1_0) rfl (by kernel_rfl) (by kernel_rfl) (by kernel_rfl) ?hqr4_1_0 (Or.inl ⟨by kernel_rfl, ?hyr4_1_0⟩) (by assumption) ?restr4_1_0
              case hqr4_1_0 => exact fun _ _ _ h => h
              case hyr4_1_0 => (intro w hSw; (try dsimp only at hSw); go_simp; try with_reducible rfl)
              try simp only [Act.put, List.getElem_toArray, List.getElem_cons_succ, List.getElem_cons_zero, List.setIfInBounds_toArray, List.set_cons_zero, List.set_cons_succ]
              refine wpAnyH_take (i := 1) (oi := _) (v := ?vr4_1_1) rfl (by kernel_rfl) (by kernel_rfl) (by kernel_rfl) ?hqr4_1_1 (Or.inl ⟨by kernel_rfl, ?hyr4_1_1⟩) (by assumption) ?restr4_1_1
              case hqr4_1_1 => exact fun _ _ _ h => h
              case hyr4_1_1 => (intro w hSw; (try dsimp only at hSw); go_simp; try with_reducible rfl)
              try simp only [Act.put, List.getElem_toArray, List.getElem_cons_succ, List.getElem_cons_zero, List.setIfInBounds_toArray, List.set_cons_zero, List.set_cons_succ]
              refine wpAnyH_take (i := 2) (oi := _) (v := ?vr4_1_2) rfl (by kernel_rfl) (by kernel_rfl) (by kernel_rfl) ?hqr4_1_2 (Or.inl ⟨by kernel_rfl, ?hyr4_1_2⟩) (by assumption) ?restr4_1_2
              case hqr4_1_2 => exact fun _ _ _ h => h
              case hyr4_1_2 => (intro w hSw; (try dsimp only at hSw); go_simp; try with_reducible rfl)
              try simp only [Act.put, List.getElem_toArray, List.getElem_cons_succ, List.getElem_cons_zero, List.setIfInBounds_toArray, List.set_cons_zero, List.set_cons_succ]
              refine wpAnyH_take (i := 3) (oi := _) (v := ?vr4_1_3) rfl (by kernel_rfl) (by kernel_rfl) (by kernel_rfl) ?hqr4_1_3 (Or.inl ⟨by kernel_rfl, ?hyr4_1_3⟩) (by assumption) ?restr4_1_3
              case hqr4_1_3 => exact fun _ _ _ h => h
              case hyr4_1_3 => (intro w hSw; (try dsimp only at hSw); go_simp; try with_reducible rfl)
              try simp only [Act.put, List.getElem_toArray, List.getElem_cons_succ, List.getElem_cons_zero, List.setIfInBounds_toArray, List.set_cons_zero, List.set_cons_succ]
              refine wpAnyH_take (i := 4) (oi := _) (v := ?vr4_1_4) rfl (by kernel_rfl) (by kernel_rfl) (by kernel_rfl) ?hqr4_1_4 (Or.inl ⟨by kernel_rfl, ?hyr4_1_4⟩) (by assumption) ?restr4_1_4
              case hqr4_1_4 => exact fun _ _ _ h => h
              case hyr4_1_4 => (intro w hSw; (try dsimp only at hSw); go_simp; try with_reducible rfl)
              try simp only [Act.put, List.getElem_toArray, List.getElem_cons_succ, List.getElem_cons_zero, List.setIfInBounds_toArray, List.set_cons_zero, List.set_cons_succ]
              refine wpAnyH_take (i := 5) (oi := _) (v := ?vr4_1_5) rfl (by kernel_rfl) (by kernel_rfl) (by kernel_rfl) ?hqr4_1_5 (Or.inl ⟨by kernel_rfl, ?hyr4_1_5⟩) (by assumption) ?restr4_1_5
              case hqr4_1_5 => exact fun _ _ _ h => h
              case hyr4_1_5 => (intro w hSw; (try dsimp only at hSw); go_simp; try with_reducible rfl)
              try simp only [Act.put, List.getElem_toArray, List.getElem_cons_succ, List.getElem_cons_zero, List.setIfInBounds_toArray, List.set_cons_zero, List.set_cons_succ]
              refine wpAnyH_take (i := 6) (oi := _) (v := ?vr4_1_6) rfl (by kernel_rfl) (by kernel_rfl) (by kernel_rfl) ?hqr4_1_6 (Or.inl ⟨by kernel_rfl, ?hyr4_1_6⟩) (by assumption) ?restr4_1_6
              case hqr4_1_6 => exact fun _ _ _ h => h
              case hyr4_1_6 => (intro w hSw; (try dsimp only at hSw); go_simp; try with_reducible rfl)
              try simp only [Act.put, List.getElem_toArray, List.getElem_cons_succ, List.getElem_cons_zero, List.setIfInBounds_toArray, List.set_cons_zero, List.set_cons_succ]
              refine wpAnyH_ready (rs := [7]) (by kernel_rfl) (by simp) ?_
              refine AllReadyH.cons (o := _) rfl (fun K hK => ?_) AllReadyH.nil
              go_simp
              (go_at_call 23; refine (HF2.out _ (hbw2.then_ (And.left (by assumption)))).mono ?_; rintro e w8 ⟨rfl, hb8⟩)
              try (go_wp2_with fail)
              refine hK.out _ _ ?_ (fun hHr4_1 => ?_)
              · (try dsimp only); (first | assumption | exact hQ2 _ (Bel.refl _).drew | exact hQ2 _ (Bel.then_ (And.left (by assumption)) hb8))
              clear hK K hHr4_0
              try simp only [Act.put, List.getElem_toArray, List.getElem_cons_succ, List.getElem_cons_zero, List.setIfInBounds_toArray, List.set_cons_zero, List.set_cons_succ]
              refine wpAnyH_ready (rs := [8]) (by kernel_rfl) (by simp) ?_
              refine AllReadyH.cons (o := _) rfl (fun K hK => ?_) AllReadyH.nil
              go_simp
              (go_at_call 17; refine (mnum_any _ _).mono ?_; rintro e w' ⟨rfl, rfl⟩)
              try (go_wp2_with fail)
              refine hK.out _ _ ?_ (fun hHr4_2 => ?_)
              · (try dsimp only); (first | assumption | exact hQ2 _ (Bel.refl _).drew | exact hQ2 _ (Bel.then_ (And.left (by assumption)) hb8))
              clear hK K hHr4_1
              try simp only [Act.put, List.getElem_toArray, List.getElem_cons_succ, List.getElem_cons_zero, List.setIfInBounds_toArray, List.set_cons_zero, List.set_cons_succ]
              refine wpAnyH_take (i := 9) (oi := _) (v := ?vr4_1_9) rfl (by kernel_rfl) (by kernel_rfl) (by kernel_rfl) ?hqr4_1_9 (Or.inl ⟨by kernel_rfl, ?hyr4_1_9⟩) (by assumption) ?restr4_1_9
              case hqr4_1_9 => exact fun _ _ _ h => h
              case hyr4_1_9 => (intro w hSw; (try dsimp only at hSw); go_simp; try with_reducible rfl)
              try simp only [Act.put, List.getElem_toArray, List.getElem_cons_succ, List.getElem_cons_zero, List.setIfInBounds_toArray, List.set_cons_zero, List.set_cons_succ]
              refine wpAnyH_take (i := 10) (oi := _) (v := ?vr4_1_10) rfl (by kernel_rfl) (by kernel_rfl) (by kernel_rfl) ?hqr4_1_10 (Or.inl ⟨by kernel_rfl, ?hyr4_1_10⟩) (by assumption) ?restr4_1_10
              case hqr4_1_10 => exact fun _ _ _ h => h
              case hyr4_1_10 => (intro w hSw; (try dsimp only at hSw); go_simp; try with_reducible rfl)
              try simp only [Act.put, List.getElem_toArray, List.getElem_cons_succ, List.getElem_cons_zero, List.setIfInBounds_toArray, List.set_cons_zero, List.set_cons_succ]
              refine wpAnyH_done (by kernel_rfl) ?_ _
              refine NoPanic.normal ?_
              have hfin2 : Bel wo _ := hbo2.then_ (And.left (by assumption))
              go_wp2_with fail
              go_roundw
              case rel => exact ⟨k + 1, by have := H1.out; omega, by have := H2.out; omega, by go_num, by rw [HSU.out]; first | rfl | simp, HB.out.then_ hfin2⟩
              case measure => have := H1.out; simp [intOf]; omega
          · have ht3b : (ct != 3) = true := by simpa using ht3
            by_cases ht4 : ct = 4
            · subst ht4
              clear ht3
              rw [show greatZ 4 cz = 200 from rfl] at HF2
              have hw9 := wide_at cz
              have hx0 : 0 ≤ min 8 (max 0 cz) := by omega
              have hx1 : min 8 (max 0 cz) < 9 := by omega
              cases ha : allFit cols l k
              · rw [ha] at HSU
                clear ha
                go_wp2_with fail
                refine wp_region_noPanic ?_
                refine wp_region_held_drew (S := (fun V : World => Bel (wo.alloc (.cells #[.string cn, .int .i64 4, .int .i64 cz, .bool cnl] 44)) V ∧ (V.cell? ⟨wo.heap.size, 0, none⟩ = some (.string cn) ∧ V.cell? ⟨wo.heap.size, 1, none⟩ = some (.int .i64 4) ∧ V.cell? ⟨wo.heap.size, 2, none⟩ = some (.int .i64 cz) ∧ V.cell? ⟨wo.heap.size, 3, none⟩ = some (.bool cnl)) ∧ V.cell? ⟨bl, ol + k * 4, none⟩ = some (.int .i64 xk) ∧ V.cell? ⟨bl, ol + k * 4 + 1, none⟩ = some (.int .i64 xn) ∧ V.cell? ⟨bl, ol + k * 4 + 2, none⟩ = some (.int .u64 xu) ∧ V.cell? ⟨bl, ol + k * 4 + 3, none⟩ = some (.string xb))) (by kernel_rfl) ?_ (fun hHr5_0 => ?_)
                · (try dsimp only); (first | assumption | exact hS _ (Bel.refl _).drew | exact hS _ (Bel.then_ (And.left (by assumption)) hb7))
                refine wpAnyH_take (i := 0) (oi := _) (v := ?vr5_1_0) rfl (by kernel_rfl) (by kernel_rfl) (by kernel_rfl) ?hqr5_1_0 (Or.inl ⟨by kernel_rfl, ?hyr5_1_0⟩) (by assumption) ?restr5_1_0
                case hqr5_1_0 => exact fun _ _ _ h => h
                case hyr5_1_0 => (intro w hSw; (try dsimp only at hSw); go_simp; try with_reducible rfl)
                try simp only [Act.put, List.getElem_toArray, List.getElem_cons_succ, List.getElem_cons_zero, List.setIfInBounds_toArray, List.set_cons_zero, List.set_cons_succ]
                refine wpAnyH_take (i := 1) (oi := _) (v := ?vr5_1_1) rfl (by kernel_rfl) (by kernel_rfl) (by kernel_rfl) ?hqr5_1_1 (Or.inl ⟨by kernel_rfl, ?hyr5_1_1⟩) (by assumption) ?restr5_1_1
                case hqr5_1_1 => exact fun _ _ _ h => h
                case hyr5_1_1 => (intro w hSw; (try dsimp only at hSw); go_simp; try with_reducible rfl)
                try simp only [Act.put, List.getElem_toArray, List.getElem_cons_succ, List.getElem_cons_zero, List.setIfInBounds_toArray, List.set_cons_zero, List.set_cons_succ]
                refine wpAnyH_take (i := 2) (oi := _) (v := ?vr5_1_2) rfl (by kernel_rfl) (by kernel_rfl) (by kernel_rfl) ?hqr5_1_2 (Or.inl ⟨by kernel_rfl, ?hyr5_1_2⟩) (by assumption) ?restr5_1_2
                case hqr5_1_2 => exact fun _ _ _ h => h
                case hyr5_1_2 => (intro w hSw; (try dsimp only at hSw); go_simp; try with_reducible rfl)
                try simp only [Act.put, List.getElem_toArray, List.getElem_cons_succ, List.getElem_cons_zero, List.setIfInBounds_toArray, List.set_cons_zero, List.set_cons_succ]
                refine wpAnyH_take (i := 3) (oi := _) (v := ?vr5_1_3) rfl (by kernel_rfl) (by kernel_rfl) (by kernel_rfl) ?hqr5_1_3 (Or.inl ⟨by kernel_rfl, ?hyr5_1_3⟩) (by assumption) ?restr5_1_3
                case hqr5_1_3 => exact fun _ _ _ h => h
                case hyr5_1_3 => (intro w hSw; (try dsimp only at hSw); go_simp; try with_reducible rfl)
                try simp only [Act.put, List.getElem_toArray, List.getElem_cons_succ, List.getElem_cons_zero, List.setIfInBounds_toArray, List.set_cons_zero, List.set_cons_succ]
                refine wpAnyH_take (i := 4) (oi := _) (v := ?vr5_1_4) rfl (by kernel_rfl) (by kernel_rfl) (by kernel_rfl) ?hqr5_1_4 (Or.inl ⟨by kernel_rfl, ?hyr5_1_4⟩) (by assumption) ?restr5_1_4
                case hqr5_1_4 => exact fun _ _ _ h => h
                case hyr5_1_4 => (intro w hSw; (try dsimp only at hSw); go_simp; try with_reducible rfl)
                try simp only [Act.put, List.getElem_toArray, List.getElem_cons_succ, List.getElem_cons_zero, List.setIfInBounds_toArray, List.set_cons_zero, List.set_cons_succ]
                refine wpAnyH_ready (rs := [5]) (by kernel_rfl) (by simp) ?_
                refine AllReadyH.cons (o := _) rfl (fun K hK => ?_) AllReadyH.nil
                go_simp
                (go_at_call 23; refine (HF1.out _ (hbw1.then_ (And.left (by assumption)))).mono ?_; rintro e w7 ⟨rfl, hb7⟩)
                try (go_wp2_with fail)
                refine hK.out _ _ ?_ (fun hHr5_1 => ?_)
                · (try dsimp only); (first | assumption | exact hS _ (Bel.refl _).drew | exact hS _ (Bel.then_ (And.left (by assumption)) hb7))
                clear hK K hHr5_0
                try simp only [Act.put, List.getElem_toArray, List.getElem_cons_succ, List.getElem_cons_zero, List.setIfInBounds_toArray, List.set_cons_zero, List.set_cons_succ]
                refine wpAnyH_ready (rs := [6]) (by kernel_rfl) (by simp) ?_
                refine AllReadyH.cons (o := _) rfl (fun K hK => ?_) AllReadyH.nil
                go_simp
                (go_at_call 17; refine (mnum_any _ _).mono ?_; rintro e w' ⟨rfl, rfl⟩)
                try (go_wp2_with fail)
                refine hK.out _ _ ?_ (fun hHr5_2 => ?_)
                · (try dsimp only); (first | assumption | exact hS _ (Bel.refl _).drew | exact hS _ (Bel.then_ (And.left (by assumption)) hb7))
                clear hK K hHr5_1
                try simp only [Act.put, List.getElem_toArray, List.getElem_cons_succ, List.getElem_cons_zero, List.setIfInBounds_toArray, List.set_cons_zero, List.set_cons_succ]
                refine wpAnyH_take (i := 7) (oi := _) (v := ?vr5_1_7) rfl (by kernel_rfl) (by kernel_rfl) (by kernel_rfl) ?hqr5_1_7 (Or.inl ⟨by kernel_rfl, ?hyr5_1_7⟩) (by assumption) ?restr5_1_7
                case hqr5_1_7 => exact fun _ _ _ h => h
                case hyr5_1_7 => (intro w hSw; (try dsimp only at hSw); go_simp; try with_reducible rfl)
                try simp only [Act.put, List.getElem_toArray, List.getElem_cons_succ, List.getElem_cons_zero, List.setIfInBounds_toArray, List.set_cons_zero, List.set_cons_succ]
                refine wpAnyH_take (i := 8) (oi := _) (v := ?vr5_1_8) rfl (by kernel_rfl) (by kernel_rfl) (by kernel_rfl) ?hqr5_1_8 (Or.inl ⟨by kernel_rfl, ?hyr5_1_8⟩) (by assumption) ?restr5_1_8
                case hqr5_1_8 => exact fun _ _ _ h => h
                case hyr5_1_8 => (intro w hSw; (try dsimp only at hSw); go_simp; try with_reducible rfl)
                try simp only [Act.put, List.getElem_toArray, List.getElem_cons_succ, List.getElem_cons_zero, List.setIfInBounds_toArray, List.set_cons_zero, List.set_cons_succ]
                refine wpAnyH_done (by kernel_rfl) ?_ _
                refine NoPanic.normal ?_
                obtain ⟨hfin, ⟨d0, d1, d2, d3⟩, e0, e1, e2, e3⟩ : (fun V : World => Bel (wo.alloc (.cells #[.string cn, .int .i64 4, .int .i64 cz, .bool cnl] 44)) V ∧ (V.cell? ⟨wo.heap.size, 0, none⟩ = some (.string cn) ∧ V.cell? ⟨wo.heap.size, 1, none⟩ = some (.int .i64 4) ∧ V.cell? ⟨wo.heap.size, 2, none⟩ = some (.int .i64 cz) ∧ V.cell? ⟨wo.heap.size, 3, none⟩ = some (.bool cnl)) ∧ V.cell? ⟨bl, ol + k * 4, none⟩ = some (.int .i64 xk) ∧ V.cell? ⟨bl, ol + k * 4 + 1, none⟩ = some (.int .i64 xn) ∧ V.cell? ⟨bl, ol + k * 4 + 2, none⟩ = some (.int .u64 xu) ∧ V.cell? ⟨bl, ol + k * 4 + 3, none⟩ = some (.string xb)) _ := (by assumption)
                have z2 := HFZ.out _ hfin 2 (by omega)
                have z3 := HFZ.out _ hfin 3 (by omega)
                have hlt9 : wo.heap.size < w7.heap.size := by have := hfin.size; simp at this; omega
                have hbo : Bel wo w7 := ((Bel.refl wo).alloc _).then_ hfin
                go_wp2_with fail
                refine wp_name ?_
                intro W2 hW2
                have g0 : W2.cell? ⟨wo.heap.size, 0, none⟩ = some (.string cn) := by rw [hW2]; go_simp
                have g1 : W2.cell? ⟨wo.heap.size, 1, none⟩ = some (.int .i64 4) := by rw [hW2]; go_simp
                have y2 : ((w7.setCell ⟨wo.heap.size, 3, none⟩ (.bool true)).setCell ⟨wo.heap.size, 2, none⟩ (.int .i64 (wideI cz))).cell? ⟨wo.heap.size, 2, none⟩ = some (.int .i64 (wideI cz)) := by go_simp
                have g2 : W2.cell? ⟨wo.heap.size, 2, none⟩ = some (.int .i64 200) := by rw [hW2]; go_simp
                have g3 : W2.cell? ⟨wo.heap.size, 3, none⟩ = some (.bool true) := by rw [hW2]; go_simp
                have hbo2 : Bel wo W2 := by rw [hW2]; (repeat (first | exact hbo | refine Bel.alloc ?_ _ | refine Bel.setCell ?_ (by simp) _))
                have hbw2 : Bel w W2 := HBW.out.then_ hbo2
                have hQ2 : ∀ V, Bel W2 V → (fun V : World => Bel W2 V ∧ (V.cell? ⟨wo.heap.size, 0, none⟩ = some (.string cn) ∧ V.cell? ⟨wo.heap.size, 1, none⟩ = some (.int .i64 4) ∧ V.cell? ⟨wo.heap.size, 2, none⟩ = some (.int .i64 200) ∧ V.cell? ⟨wo.heap.size, 3, none⟩ = some (.bool true)) ∧ V.cell? ⟨bl, ol + k * 4, none⟩ = some (.int .i64 xk) ∧ V.cell? ⟨bl, ol + k * 4 + 1, none⟩ = some (.int .i64 xn) ∧ V.cell? ⟨bl, ol + k * 4 + 2, none⟩ = some (.int .u64 xu) ∧ V.cell? ⟨bl, ol + k * 4 + 3, none⟩ = some (.string xb)) V := fun V h => ⟨h, ⟨h.c g0, h.c g1, h.c g2, h.c g3⟩, HE.out V (hbw2.then_ h)⟩
                clear hW2 hfin d0 d1 d2 d3 e0 e1 e2 e3 z2 z3 hlt9 hbo
                refine wp_region_noPanic ?_
                refine wp_region_held_drew (S := (fun V : World => Bel W2 V ∧ (V.cell? ⟨wo.heap.size, 0, none⟩ = some (.string cn) ∧ V.cell? ⟨wo.heap.size, 1, none⟩ = some (.int .i64 4) ∧ V.cell? ⟨wo.heap.size, 2, none⟩ = some (.int .i64 200) ∧ V.cell? ⟨wo.heap.size, 3, none⟩ = some (.bool true)) ∧ V.cell? ⟨bl, ol + k * 4, none⟩ = some (.int .i64 xk) ∧ V.cell? ⟨bl, ol + k * 4 + 1, none⟩ = some (.int .i64 xn) ∧ V.cell? ⟨bl, ol + k * 4 + 2, none⟩ = some (.int .u64 xu) ∧ V.cell? ⟨bl, ol + k * 4 + 3, none⟩ = some (.string xb))) (by kernel_rfl) ?_ (fun hHr6_0 => ?_)
                · (try dsimp only); (first | assumption | exact hQ2 _ (Bel.refl _).drew | exact hQ2 _ (Bel.then_ (And.left (by assumption)) hb8))
                refine wpAnyH_take (i := 0) (oi := _) (v := ?vr6_1_0) rfl (by kernel_rfl) (by kernel_rfl) (by kernel_rfl) ?hqr6_1_0 (Or.inl ⟨by kernel_rfl, ?hyr6_1_0⟩) (by assumption) ?restr6_1_0
                case hqr6_1_0 => exact fun _ _ _ h => h
                case hyr6_1_0 => (intro w hSw; (try dsimp only at hSw); go_simp; try with_reducible rfl)
                try simp only [Act.put, List.getElem_toArray, List.getElem_cons_succ, List.getElem_cons_zero, List.setIfInBounds_toArray, List.set_cons_zero, List.set_cons_succ]
                refine wpAnyH_take (i := 1) (oi := _) (v := ?vr6_1_1) rfl (by kernel_rfl) (by kernel_rfl) (by kernel_rfl) ?hqr6_1_1 (Or.inl ⟨by kernel_rfl, ?hyr6_1_1⟩) (by assumption) ?restr6_1_1
                case hqr6_1_1 => exact fun _ _ _ h => h
                case hyr6_1_1 => (intro w hSw; (try dsimp only at hSw); go_simp; try with_reducible rfl)
                try simp only [Act.put, List.getElem_toArray, List.getElem_cons_succ, List.getElem_cons_zero, List.setIfInBounds_toArray, List.set_cons_zero, List.set_cons_succ]
                refine wpAnyH_take (i := 2) (oi := _) (v := ?vr6_1_2) rfl (by kernel_rfl) (by kernel_rfl) (by kernel_rfl) ?hqr6_1_2 (Or.inl ⟨by kernel_rfl, ?hyr6_1_2⟩) (by assumption) ?restr6_1_2
                case hqr6_1_2 => exact fun _ _ _ h => h
                case hyr6_1_2 => (intro w hSw; (try dsimp only at hSw); go_simp; try with_reducible rfl)
                try simp only [Act.put, List.getElem_toArray, List.getElem_cons_succ, List.getElem_cons_zero, List.setIfInBounds_toArray, List.set_cons_zero, List.set_cons_succ]
                refine wpAnyH_take (i := 3) (oi := _) (v := ?vr6_1_3) rfl (by kernel_rfl) (by kernel_rfl) (by kernel_rfl) ?hqr6_1_3 (Or.inl ⟨by kernel_rfl, ?hyr6_1_3⟩) (by assumption) ?restr6_1_3
                case hqr6_1_3 => exact fun _ _ _ h => h
                case hyr6_1_3 => (intro w hSw; (try dsimp only at hSw); go_simp; try with_reducible rfl)
                try simp only [Act.put, List.getElem_toArray, List.getElem_cons_succ, List.getElem_cons_zero, List.setIfInBounds_toArray, List.set_cons_zero, List.set_cons_succ]
                refine wpAnyH_take (i := 4) (oi := _) (v := ?vr6_1_4) rfl (by kernel_rfl) (by kernel_rfl) (by kernel_rfl) ?hqr6_1_4 (Or.inl ⟨by kernel_rfl, ?hyr6_1_4⟩) (by assumption) ?restr6_1_4
                case hqr6_1_4 => exact fun _ _ _ h => h
                case hyr6_1_4 => (intro w hSw; (try dsimp only at hSw); go_simp; try with_reducible rfl)
                try simp only [Act.put, List.getElem_toArray, List.getElem_cons_succ, List.getElem_cons_zero, List.setIfInBounds_toArray, List.set_cons_zero, List.set_cons_succ]
                refine wpAnyH_take (i := 5) (oi := _) (v := ?vr6_1_5) rfl (by kernel_rfl) (by kernel_rfl) (by kernel_rfl) ?hqr6_1_5 (Or.inl ⟨by kernel_rfl, ?hyr6_1_5⟩) (by assumption) ?restr6_1_5
                case hqr6_1_5 => exact fun _ _ _ h => h
                case hyr6_1_5 => (intro w hSw; (try dsimp only at hSw); go_simp; try with_reducible rfl)
                try simp only [Act.put, List.getElem_toArray, List.getElem_cons_succ, List.getElem_cons_zero, List.setIfInBounds_toArray, List.set_cons_zero, List.set_cons_succ]
                refine wpAnyH_take (i := 6) (oi := _) (v := ?vr6_1_6) rfl (by kernel_rfl) (by kernel_rfl) (by kernel_rfl) ?hqr6_1_6 (Or.inl ⟨by kernel_rfl, ?hyr6_1_6⟩) (by assumption) ?restr6_1_6
                case hqr6_1_6 => exact fun _ _ _ h => h
                case hyr6_1_6 => (intro w hSw; (try dsimp only at hSw); go_simp; try with_reducible rfl)
                try simp only [Act.put, List.getElem_toArray, List.getElem_cons_succ, List.getElem_cons_zero, List.setIfInBounds_toArray, List.set_cons_zero, List.set_cons_succ]
                refine wpAnyH_ready (rs := [7]) (by kernel_rfl) (by simp) ?_
                refine AllReadyH.cons (o := _) rfl (fun K hK => ?_) AllReadyH.nil
                go_simp
                (go_at_call 23; refine (HF2.out _ (hbw2.then_ (And.left (by assumption)))).mono ?_; rintro e w8 ⟨rfl, hb8⟩)
                try (go_wp2_with fail)
                refine hK.out _ _ ?_ (fun hHr6_1 => ?_)
                · (try dsimp only); (first | assumption | exact hQ2 _ (Bel.refl _).drew | exact hQ2 _ (Bel.then_ (And.left (by assumption)) hb8))
                clear hK K hHr6_0
                try simp only [Act.put, List.getElem_toArray, List.getElem_cons_succ, List.getElem_cons_zero, List.setIfInBounds_toArray, List.set_cons_zero, List.set_cons_succ]
                refine wpAnyH_ready (rs := [8]) (by kernel_rfl) (by simp) ?_
                refine AllReadyH.cons (o := _) rfl (fun K hK => ?_) AllReadyH.nil
                go_simp
                (go_at_call 17; refine (mnum_any _ _).mono ?_; rintro e w' ⟨rfl, rfl⟩)
                try (go_wp2_with fail)
                refine hK.out _ _ ?_ (fun hHr6_2 => ?_)
                · (try dsimp only); (first | assumption | exact hQ2 _ (Bel.refl _).drew | exact hQ2 _ (Bel.then_ (And.left (by assumption)) hb8))
                clear hK K hHr6_1
                try simp only [Act.put, List.getElem_toArray, List.getElem_cons_succ, List.getElem_cons_zero, List.setIfInBounds_toArray, List.set_cons_zero, List.set_cons_succ]
                refine wpAnyH_take (i := 9) (oi := _) (v := ?vr6_1_9) rfl (by kernel_rfl) (by kernel_rfl) (by kernel_rfl) ?hqr6_1_9 (Or.inl ⟨by kernel_rfl, ?hyr6_1_9⟩) (by assumption) ?restr6_1_9
                case hqr6_1_9 => exact fun _ _ _ h => h
                case hyr6_1_9 => (intro w hSw; (try dsimp only at hSw); go_simp; try with_reducible rfl)
                try simp only [Act.put, List.getElem_toArray, List.getElem_cons_succ, List.getElem_cons_zero, List.setIfInBounds_toArray, List.set_cons_zero, List.set_cons_succ]
                refine wpAnyH_take (i := 10) (oi := _) (v := ?vr6_1_10) rfl (by kernel_rfl) (by kernel_rfl) (by kernel_rfl) ?hqr6_1_10 (Or.inl ⟨by kernel_rfl, ?hyr6_1_10⟩) (by assumption) ?restr6_1_10
                case hqr6_1_10 => exact fun _ _ _ h => h
                case hyr6_1_10 => (intro w hSw; (try dsimp only at hSw); go_simp; try with_reducible rfl)
                try simp only [Act.put, List.getElem_toArray, List.getElem_cons_succ, List.getElem_cons_zero, List.setIfInBounds_toArray, List.set_cons_zero, List.set_cons_succ]
                refine wpAnyH_done (by kernel_rfl) ?_ _
                refine NoPanic.normal ?_
                have hfin2 : Bel wo _ := hbo2.then_ (And.left (by assumption))
                go_wp2_with fail
                go_roundw
                case rel => exact ⟨k + 1, by have := H1.out; omega, by have := H2.out; omega, by go_num, by rw [HSU.out]; first | rfl | simp, HB.out.then_ hfin2⟩
                case measure => have := H1.out; simp [intOf]; omega
              · rw [ha] at HSU
                clear ha
                go_wp2_with fail
                refine wp_region_noPanic ?_
                refine wp_region_held_drew (S := (fun V : World => Bel (wo.alloc (.cells #[.string cn, .int .i64 4, .int .i64 cz, .bool cnl] 44)) V ∧ (V.cell? ⟨wo.heap.size, 0, none⟩ = some (.string cn) ∧ V.cell? ⟨wo.heap.size, 1, none⟩ = some (.int .i64 4) ∧ V.cell? ⟨wo.heap.size, 2, none⟩ = some (.int .i64 cz) ∧ V.cell? ⟨wo.heap.size, 3, none⟩ = some (.bool cnl)) ∧ V.cell? ⟨bl, ol + k * 4, none⟩ = some (.int .i64 xk) ∧ V.cell? ⟨bl, ol + k * 4 + 1, none⟩ = some (.int .i64 xn) ∧ V.cell? ⟨bl, ol + k * 4 + 2, none⟩ = some (.int .u64 xu) ∧ V.cell? ⟨bl, ol + k * 4 + 3, none⟩ = some (.string xb))) (by kernel_rfl) ?_ (fun hHr7_0 => ?_)
                · (try dsimp only); (first | assumption | exact hS _ (Bel.refl _).drew | exact hS _ (Bel.then_ (And.left (by assumption)) hb7))
                refine wpAnyH_take (i := 0) (oi := _) (v := ?vr7_1_0) rfl (by kernel_rfl) (by kernel_rfl) (by kernel_rfl) ?hqr7_1_0 (Or.inl ⟨by kernel_rfl, ?hyr7_1_0⟩) (by assumption) ?restr7_1_0
                case hqr7_1_0 => exact fun _ _ _ h => h
                case hyr7_1_0 => (intro w hSw; (try dsimp only at hSw); go_simp; try with_reducible rfl)
                try simp only [Act.put, List.getElem_toArray, List.getElem_cons_succ, List.getElem_cons_zero, List.setIfInBounds_toArray, List.set_cons_zero, List.set_cons_succ]
                refine wpAnyH_take (i := 1) (oi := _) (v := ?vr7_1_1) rfl (by kernel_rfl) (by kernel_rfl) (by kernel_rfl) ?hqr7_1_1 (Or.inl ⟨by kernel_rfl, ?hyr7_1_1⟩) (by assumption) ?restr7_1_1
                case hqr7_1_1 => exact fun _ _ _ h => h
                case hyr7_1_1 => (intro w hSw; (try dsimp only at hSw); go_simp; try with_reducible rfl)
                try simp only [Act.put, List.getElem_toArray, List.getElem_cons_succ, List.getElem_cons_zero, List.setIfInBounds_toArray, List.set_cons_zero, List.set_cons_succ]
                refine wpAnyH_take (i := 2) (oi := _) (v := ?vr7_1_2) rfl (by kernel_rfl) (by kernel_rfl) (by kernel_rfl) ?hqr7_1_2 (Or.inl ⟨by kernel_rfl, ?hyr7_1_2⟩) (by assumption) ?restr7_1_2
                case hqr7_1_2 => exact fun _ _ _ h => h
                case hyr7_1_2 => (intro w hSw; (try dsimp only at hSw); go_simp; try with_reducible rfl)
                try simp only [Act.put, List.getElem_toArray, List.getElem_cons_succ, List.getElem_cons_zero, List.setIfInBounds_toArray, List.set_cons_zero, List.set_cons_succ]
                refine wpAnyH_take (i := 3) (oi := _) (v := ?vr7_1_3) rfl (by kernel_rfl) (by kernel_rfl) (by kernel_rfl) ?hqr7_1_3 (Or.inl ⟨by kernel_rfl, ?hyr7_1_3⟩) (by assumption) ?restr7_1_3
                case hqr7_1_3 => exact fun _ _ _ h => h
                case hyr7_1_3 => (intro w hSw; (try dsimp only at hSw); go_simp; try with_reducible rfl)
                try simp only [Act.put, List.getElem_toArray, List.getElem_cons_succ, List.getElem_cons_zero, List.setIfInBounds_toArray, List.set_cons_zero, List.set_cons_succ]
                refine wpAnyH_take (i := 4) (oi := _) (v := ?vr7_1_4) rfl (by kernel_rfl) (by kernel_rfl) (by kernel_rfl) ?hqr7_1_4 (Or.inl ⟨by kernel_rfl, ?hyr7_1_4⟩) (by assumption) ?restr7_1_4
                case hqr7_1_4 => exact fun _ _ _ h => h
                case hyr7_1_4 => (intro w hSw; (try dsimp only at hSw); go_simp; try with_reducible rfl)
                try simp only [Act.put, List.getElem_toArray, List.getElem_cons_succ, List.getElem_cons_zero, List.setIfInBounds_toArray, List.set_cons_zero, List.set_cons_succ]
                refine wpAnyH_ready (rs := [5]) (by kernel_rfl) (by simp) ?_
                refine AllReadyH.cons (o := _) rfl (fun K hK => ?_) AllReadyH.nil
                go_simp
                (go_at_call 23; refine (HF1.out _ (hbw1.then_ (And.left (by assumption)))).mono ?_; rintro e w7 ⟨rfl, hb7⟩)
                try (go_wp2_with fail)
                refine hK.out _ _ ?_ (fun hHr7_1 => ?_)
                · (try dsimp only); (first | assumption | exact hS _ (Bel.refl _).drew | exact hS _ (Bel.then_ (And.left (by assumption)) hb7))
                clear hK K hHr7_0
                try simp only [Act.put, List.getElem_toArray, List.getElem_cons_succ, List.getElem_cons_zero, List.setIfInBounds_toArray, List.set_cons_zero, List.set_cons_succ]
                refine wpAnyH_ready (rs := [6]) (by kernel_rfl) (by simp) ?_
                refine AllReadyH.cons (o := _) rfl (fun K hK => ?_) AllReadyH.nil
                go_simp
                (go_at_call 17; refine (mnum_any _ _).mono ?_; rintro e w' ⟨rfl, rfl⟩)
                try (go_wp2_with fail)
                refine hK.out _ _ ?_ (fun hHr7_2 => ?_)
                · (try dsimp only); (first | assumption | exact hS _ (Bel.refl _).drew | exact hS _ (Bel.then_ (And.left (by assumption)) hb7))
                clear hK K hHr7_1
                try simp only [Act.put, List.getElem_toArray, List.getElem_cons_succ, List.getElem_cons_zero, List.setIfInBounds_toArray, List.set_cons_zero, List.set_cons_succ]
                refine wpAnyH_take (i := 7) (oi := _) (v := ?vr7_1_7) rfl (by kernel_rfl) (by kernel_rfl) (by kernel_rfl) ?hqr7_1_7 (Or.inl ⟨by kernel_rfl, ?hyr7_1_7⟩) (by assumption) ?restr7_1_7
                case hqr7_1_7 => exact fun _ _ _ h => h
                case hyr7_1_7 => (intro w hSw; (try dsimp only at hSw); go_simp; try with_reducible rfl)
                try simp only [Act.put, List.getElem_toArray, List.getElem_cons_succ, List.getElem_cons_zero, List.setIfInBounds_toArray, List.set_cons_zero, List.set_cons_succ]
                refine wpAnyH_take (i := 8) (oi := _) (v := ?vr7_1_8) rfl (by kernel_rfl) (by kernel_rfl) (by kernel_rfl) ?hqr7_1_8 (Or.inl ⟨by kernel_rfl, ?hyr7_1_8⟩) (by assumption) ?restr7_1_8
                case hqr7_1_8 => exact fun _ _ _ h => h
                case hyr7_1_8 => (intro w hSw; (try dsimp only at hSw); go_simp; try with_reducible rfl)
                try simp only [Act.put, List.getElem_toArray, List.getElem_cons_succ, List.getElem_cons_zero, List.setIfInBounds_toArray, List.set_cons_zero, List.set_cons_succ]
                refine wpAnyH_done (by kernel_rfl) ?_ _
                refine NoPanic.normal ?_
                obtain ⟨hfin, ⟨d0, d1, d2, d3⟩, e0, e1, e2, e3⟩ : (fun V : World => Bel (wo.alloc (.cells #[.string cn, .int .i64 4, .int .i64 cz, .bool cnl] 44)) V ∧ (V.cell? ⟨wo.heap.size, 0, none⟩ = some (.string cn) ∧ V.cell? ⟨wo.heap.size, 1, none⟩ = some (.int .i64 4) ∧ V.cell? ⟨wo.heap.size, 2, none⟩ = some (.int .i64 cz) ∧ V.cell? ⟨wo.heap.size, 3, none⟩ = some (.bool cnl)) ∧ V.cell? ⟨bl, ol + k * 4, none⟩ = some (.int .i64 xk) ∧ V.cell? ⟨bl, ol + k * 4 + 1, none⟩ = some (.int .i64 xn) ∧ V.cell? ⟨bl, ol + k * 4 + 2, none⟩ = some (.int .u64 xu) ∧ V.cell? ⟨bl, ol + k * 4 + 3, none⟩ = some (.string xb)) _ := (by assumption)
                have z2 := HFZ.out _ hfin 2 (by omega)
                have z3 := HFZ.out _ hfin 3 (by omega)
                have hlt9 : wo.heap.size < w7.heap.size := by have := hfin.size; simp at this; omega
                have hbo : Bel wo w7 := ((Bel.refl wo).alloc _).then_ hfin
                go_wp2_with fail
                refine wp_name ?_
                intro W2 hW2
                have g0 : W2.cell? ⟨wo.heap.size, 0, none⟩ = some (.string cn) := by rw [hW2]; go_simp
                have g1 : W2.cell? ⟨wo.heap.size, 1, none⟩ = some (.int .i64 4) := by rw [hW2]; go_simp
                have y2 : ((w7.setCell ⟨wo.heap.size, 3, none⟩ (.bool true)).setCell ⟨wo.heap.size, 2, none⟩ (.int .i64 (wideI cz))).cell? ⟨wo.heap.size, 2, none⟩ = some (.int .i64 (wideI cz)) := by go_simp
                have g2 : W2.cell? ⟨wo.heap.size, 2, none⟩ = some (.int .i64 200) := by rw [hW2]; go_simp
                have g3 : W2.cell? ⟨wo.heap.size, 3, none⟩ = some (.bool true) := by rw [hW2]; go_simp
                have hbo2 : Bel wo W2 := by rw [hW2]; (repeat (first | exact hbo | refine Bel.alloc ?_ _ | refine Bel.setCell ?_ (by simp) _))
                have hbw2 : Bel w W2 := HBW.out.then_ hbo2
                have hQ2 : ∀ V, Bel W2 V → (fun V : World => Bel W2 V ∧ (V.cell? ⟨wo.heap.size, 0, none⟩ = some (.string cn) ∧ V.cell? ⟨wo.heap.size, 1, none⟩ = some (.int .i64 4) ∧ V.cell? ⟨wo.heap.size, 2, none⟩ = some (.int .i64 200) ∧ V.cell? ⟨wo.heap.size, 3, none⟩ = some (.bool true)) ∧ V.cell? ⟨bl, ol + k * 4, none⟩ = some (.int .i64 xk) ∧ V.cell? ⟨bl, ol + k * 4 + 1, none⟩ = some (.int .i64 xn) ∧ V.cell? ⟨bl, ol + k * 4 + 2, none⟩ = some (.int .u64 xu) ∧ V.cell? ⟨bl, ol + k * 4 + 3, none⟩ = some (.string xb)) V := fun V h => ⟨h, ⟨h.c g0, h.c g1, h.c g2, h.c g3⟩, HE.out V (hbw2.then_ h)⟩
                clear hW2 hfin d0 d1 d2 d3 e0 e1 e2 e3 z2 z3 hlt9 hbo
                refine wp_region_noPanic ?_
                refine wp_region_held_drew (S := (fun V : World => Bel W2 V ∧ (V.cell? ⟨wo.heap.size, 0, none⟩ = some (.string cn) ∧ V.cell? ⟨wo.heap.size, 1, none⟩ = some (.int .i64 4) ∧ V.cell? ⟨wo.heap.size, 2, none⟩ = some (.int .i64 200) ∧ V.cell? ⟨wo.heap.size, 3, none⟩ = some (.bool true)) ∧ V.cell? ⟨bl, ol + k * 4, none⟩ = some (.int .i64 xk) ∧ V.cell? ⟨bl, ol + k * 4 + 1, none⟩ = some (.int .i64 xn) ∧ V.cell? ⟨bl, ol + k * 4 + 2, none⟩ = some (.int .u64 xu) ∧ V.cell? ⟨bl, ol + k * 4 + 3, none⟩ = some (.string xb))) (by kernel_rfl) ?_ (fun hHr8_0 => ?_)
                · (try dsimp only); (first | assumption | exact hQ2 _ (Bel.refl _).drew | exact hQ2 _ (Bel.then_ (And.left (by assumption)) hb8))
                refine wpAnyH_take (i := 0) (oi := _) (v := ?vr8_1_0) rfl (by kernel_rfl) (by kernel_rfl) (by kernel_rfl) ?hqr8_1_0 (Or.inl ⟨by kernel_rfl, ?hyr8_1_0⟩) (by assumption) ?restr8_1_0
                case hqr8_1_0 => exact fun _ _ _ h => h
                case hyr8_1_0 => (intro w hSw; (try dsimp only at hSw); go_simp; try with_reducible rfl)
                try simp only [Act.put, List.getElem_toArray, List.getElem_cons_succ, List.getElem_cons_zero, List.setIfInBounds_toArray, List.set_cons_zero, List.set_cons_succ]
                refine wpAnyH_take (i := 1) (oi := _) (v := ?vr8_1_1) rfl (by kernel_rfl) (by kernel_rfl) (by kernel_rfl) ?hqr8_1_1 (Or.inl ⟨by kernel_rfl, ?hyr8_1_1⟩) (by assumption) ?restr8_1_1
                case hqr8_1_1 => exact fun _ _ _ h => h
                case hyr8_1_1 => (intro w hSw; (try dsimp only at hSw); go_simp; try with_reducible rfl)
                try simp only [Act.put, List.getElem_toArray, List.getElem_cons_succ, List.getElem_cons_zero, List.setIfInBounds_toArray, List.set_cons_zero, List.set_cons_succ]
                refine wpAnyH_take (i := 2) (oi := _) (v := ?vr8_1_2) rfl (by kernel_rfl) (by kernel_rfl) (by kernel_rfl) ?hqr8_1_2 (Or.inl ⟨by kernel_rfl, ?hyr8_1_2⟩) (by assumption) ?restr8_1_2
                case hqr8_1_2 => exact fun _ _ _ h => h
                case hyr8_1_2 => (intro w hSw; (try dsimp only at hSw); go_simp; try with_reducible rfl)
                try simp only [Act.put, List.getElem_toArray, List.getElem_cons_succ, List.getElem_cons_zero, List.setIfInBounds_toArray, List.set_cons_zero, List.set_cons_succ]
                refine wpAnyH_take (i := 3) (oi := _) (v := ?vr8_1_3) rfl (by kernel_rfl) (by kernel_rfl) (by kernel_rfl) ?hqr8_1_3 (Or.inl ⟨by kernel_rfl, ?hyr8_1_3⟩) (by assumption) ?restr8_1_3
                case hqr8_1_3 => exact fun _ _ _ h => h
                case hyr8_1_3 => (intro w hSw; (try dsimp only at hSw); go_simp; try with_reducible rfl)
                try simp only [Act.put, List.getElem_toArray, List.getElem_cons_succ, List.getElem_cons_zero, List.setIfInBounds_toArray, List.set_cons_zero, List.set_cons_succ]
                refine wpAnyH_take (i := 4) (oi := _) (v := ?vr8_1_4) rfl (by kernel_rfl) (by kernel_rfl) (by kernel_rfl) ?hqr8_1_4 (Or.inl ⟨by kernel_rfl, ?hyr8_1_4⟩) (by assumption) ?restr8_1_4
                case hqr8_1_4 => exact fun _ _ _ h => h
                case hyr8_1_4 => (intro w hSw; (try dsimp only at hSw); go_simp; try with_reducible rfl)
                try simp only [Act.put, List.getElem_toArray, List.getElem_cons_succ, List.getElem_cons_zero, List.setIfInBounds_toArray, List.set_cons_zero, List.set_cons_succ]
                refine wpAnyH_take (i := 5) (oi := _) (v := ?vr8_1_5) rfl (by kernel_rfl) (by kernel_rfl) (by kernel_rfl) ?hqr8_1_5 (Or.inl ⟨by kernel_rfl, ?hyr8_1_5⟩) (by assumption) ?restr8_1_5
                case hqr8_1_5 => exact fun _ _ _ h => h
                case hyr8_1_5 => (intro w hSw; (try dsimp only at hSw); go_simp; try with_reducible rfl)
                try simp only [Act.put, List.getElem_toArray, List.getElem_cons_succ, List.getElem_cons_zero, List.setIfInBounds_toArray, List.set_cons_zero, List.set_cons_succ]
                refine wpAnyH_take (i := 6) (oi := _) (v := ?vr8_1_6) rfl (by kernel_rfl) (by kernel_rfl) (by kernel_rfl) ?hqr8_1_6 (Or.inl ⟨by kernel_rfl, ?hyr8_1_6⟩) (by assumption) ?restr8_1_6
                case hqr8_1_6 => exact fun _ _ _ h => h
                case hyr8_1_6 => (intro w hSw; (try dsimp only at hSw); go_simp; try with_reducible rfl)
                try simp only [Act.put, List.getElem_toArray, List.getElem_cons_succ, List.getElem_cons_zero, List.setIfInBounds_toArray, List.set_cons_zero, List.set_cons_succ]
                refine wpAnyH_ready (rs := [7]) (by kernel_rfl) (by simp) ?_
                refine AllReadyH.cons (o := _) rfl (fun K hK => ?_) AllReadyH.nil
                go_simp
                (go_at_call 23; refine (HF2.out _ (hbw2.then_ (And.left (by assumption)))).mono ?_; rintro e w8 ⟨rfl, hb8⟩)
                try (go_wp2_with fail)
                refine hK.out _ _ ?_ (fun hHr8_1 => ?_)
                · (try dsimp only); (first | assumption | exact hQ2 _ (Bel.refl _).drew | exact hQ2 _ (Bel.then_ (And.left (by assumption)) hb8))
                clear hK K hHr8_0
                try simp only [Act.put, List.getElem_toArray, List.getElem_cons_succ, List.getElem_cons_zero, List.setIfInBounds_toArray, List.set_cons_zero, List.set_cons_succ]
                refine wpAnyH_ready (rs := [8]) (by kernel_rfl) (by simp) ?_
                refine AllReadyH.cons (o := _) rfl (fun K hK => ?_) AllReadyH.nil
                go_simp
                (go_at_call 17; refine (mnum_any _ _).mono ?_; rintro e w' ⟨rfl, rfl⟩)
                try (go_wp2_with fail)
                refine hK.out _ _ ?_ (fun hHr8_2 => ?_)
                · (try dsimp only); (first | assumption | exact hQ2 _ (Bel.refl _).drew | exact hQ2 _ (Bel.then_ (And.left (by assumption)) hb8))
                clear hK K hHr8_1
                try simp only [Act.put, List.getElem_toArray, List.getElem_cons_succ, List.getElem_cons_zero, List.setIfInBounds_toArray, List.set_cons_zero, List.set_cons_succ]
                refine wpAnyH_take (i := 9) (oi := _) (v := ?vr8_1_9) rfl (by kernel_rfl) (by kernel_rfl) (by kernel_rfl) ?hqr8_1_9 (Or.inl ⟨by kernel_rfl, ?hyr8_1_9⟩) (by assumption) ?restr8_1_9
                case hqr8_1_9 => exact fun _ _ _ h => h
                case hyr8_1_9 => (intro w hSw; (try dsimp only at hSw); go_simp; try with_reducible rfl)
                try simp only [Act.put, List.getElem_toArray, List.getElem_cons_succ, List.getElem_cons_zero, List.setIfInBounds_toArray, List.set_cons_zero, List.set_cons_succ]
                refine wpAnyH_take (i := 10) (oi := _) (v := ?vr8_1_10) rfl (by kernel_rfl) (by kernel_rfl) (by kernel_rfl) ?hqr8_1_10 (Or.inl ⟨by kernel_rfl, ?hyr8_1_10⟩) (by assumption) ?restr8_1_10
                case hqr8_1_10 => exact fun _ _ _ h => h
                case hyr8_1_10 => (intro w hSw; (try dsimp only at hSw); go_simp; try with_reducible rfl)
                try simp only [Act.put, List.getElem_toArray, List.getElem_cons_succ, List.getElem_cons_zero, List.setIfInBounds_toArray, List.set_cons_zero, List.set_cons_succ]
                refine wpAnyH_done (by kernel_rfl) ?_ _
                refine NoPanic.normal ?_
                have hfin2 : Bel wo _ := hbo2.then_ (And.left (by assumption))
                go_wp2_with fail
                go_roundw
                case rel => exact ⟨k + 1, by have := H1.out; omega, by have := H2.out; omega, by go_num, by rw [HSU.out]; first | rfl | simp, HB.out.then_ hfin2⟩
                case measure => have := H1.out; simp [intOf]; omega
            · have ht4b : (ct == 4) = false := by simpa using ht4
              rw [show greatZ ct cz = wideI cz by unfold greatZ; rw [if_neg ht4, if_neg ht3]] at HF2
              clear ht3 ht4
              have hw9 := wide_at cz
              have hx0 : 0 ≤ min 8 (max 0 cz) := by omega
              have hx1 : min 8 (max 0 cz) < 9 := by omega
              cases ha : allFit cols l k
              · rw [ha] at HSU
                clear ha
                go_wp2_with fail
                refine wp_region_noPanic ?_
                refine wp_region_held_drew (S := (fun V : World => Bel (wo.alloc (.cells #[.string cn, .int .i64 ct, .int .i64 cz, .bool cnl] 44)) V ∧ (V.cell? ⟨wo.heap.size, 0, none⟩ = some (.string cn) ∧ V.cell? ⟨wo.heap.size, 1, none⟩ = some (.int .i64 ct) ∧ V.cell? ⟨wo.heap.size, 2, none⟩ = some (.int .i64 cz) ∧ V.cell? ⟨wo.heap.size, 3, none⟩ = some (.bool cnl)) ∧ V.cell? ⟨bl, ol + k * 4, none⟩ = some (.int .i64 xk) ∧ V.cell? ⟨bl, ol + k * 4 + 1, none⟩ = some (.int .i64 xn) ∧ V.cell? ⟨bl, ol + k * 4 + 2, none⟩ = some (.int .u64 xu) ∧ V.cell? ⟨bl, ol + k * 4 + 3, none⟩ = some (.string xb))) (by kernel_rfl) ?_ (fun hHr9_0 => ?_)
                · (try dsimp only); (first | assumption | exact hS _ (Bel.refl _).drew | exact hS _ (Bel.then_ (And.left (by assumption)) hb7))
                refine wpAnyH_take (i := 0) (oi := _) (v := ?vr9_1_0) rfl (by kernel_rfl) (by kernel_rfl) (by kernel_rfl) ?hqr9_1_0 (Or.inl ⟨by kernel_rfl, ?hyr9_1_0⟩) (by assumption) ?restr9_1_0
                case hqr9_1_0 => exact fun _ _ _ h => h
                case hyr9_1_0 => (intro w hSw; (try dsimp only at hSw); go_simp; try with_reducible rfl)
                try simp only [Act.put, List.getElem_toArray, List.getElem_cons_succ, List.getElem_cons_zero, List.setIfInBounds_toArray, List.set_cons_zero, List.set_cons_succ]
                refine wpAnyH_take (i := 1) (oi := _) (v := ?vr9_1_1) rfl (by kernel_rfl) (by kernel_rfl) (by kernel_rfl) ?hqr9_1_1 (Or.inl ⟨by kernel_rfl, ?hyr9_1_1⟩) (by assumption) ?restr9_1_1
                case hqr9_1_1 => exact fun _ _ _ h => h
                case hyr9_1_1 => (intro w hSw; (try dsimp only at hSw); go_simp; try with_reducible rfl)
                try simp only [Act.put, List.getElem_toArray, List.getElem_cons_succ, List.getElem_cons_zero, List.setIfInBounds_toArray, List.set_cons_zero, List.set_cons_succ]
                refine wpAnyH_take (i := 2) (oi := _) (v := ?vr9_1_2) rfl (by kernel_rfl) (by kernel_rfl) (by kernel_rfl) ?hqr9_1_2 (Or.inl ⟨by kernel_rfl, ?hyr9_1_2⟩) (by assumption) ?restr9_1_2
                case hqr9_1_2 => exact fun _ _ _ h => h
                case hyr9_1_2 => (intro w hSw; (try dsimp only at hSw); go_simp; try with_reducible rfl)
                try simp only [Act.put, List.getElem_toArray, List.getElem_cons_succ, List.getElem_cons_zero, List.setIfInBounds_toArray, List.set_cons_zero, List.set_cons_succ]
                refine wpAnyH_take (i := 3) (oi := _) (v := ?vr9_1_3) rfl (by kernel_rfl) (by kernel_rfl) (by kernel_rfl) ?hqr9_1_3 (Or.inl ⟨by kernel_rfl, ?hyr9_1_3⟩) (by assumption) ?restr9_1_3
                case hqr9_1_3 => exact fun _ _ _ h => h
                case hyr9_1_3 => (intro w hSw; (try dsimp only at hSw); go_simp; try with_reducible rfl)
                try simp only [Act.put, List.getElem_toArray, List.getElem_cons_succ, List.getElem_cons_zero, List.setIfInBounds_toArray, List.set_cons_zero, List.set_cons_succ]
                refine wpAnyH_take (i := 4) (oi := _) (v := ?vr9_1_4) rfl (by kernel_rfl) (by kernel_rfl) (by kernel_rfl) ?hqr9_1_4 (Or.inl ⟨by kernel_rfl, ?hyr9_1_4⟩) (by assumption) ?restr9_1_4
                case hqr9_1_4 => exact fun _ _ _ h => h
                case hyr9_1_4 => (intro w hSw; (try dsimp only at hSw); go_simp; try with_reducible rfl)
                try simp only [Act.put, List.getElem_toArray, List.getElem_cons_succ, List.getElem_cons_zero, List.setIfInBounds_toArray, List.set_cons_zero, List.set_cons_succ]
                refine wpAnyH_ready (rs := [5]) (by kernel_rfl) (by simp) ?_
                refine AllReadyH.cons (o := _) rfl (fun K hK => ?_) AllReadyH.nil
                go_simp
                (go_at_call 23; refine (HF1.out _ (hbw1.then_ (And.left (by assumption)))).mono ?_; rintro e w7 ⟨rfl, hb7⟩)
                try (go_wp2_with fail)
                refine hK.out _ _ ?_ (fun hHr9_1 => ?_)
                · (try dsimp only); (first | assumption | exact hS _ (Bel.refl _).drew | exact hS _ (Bel.then_ (And.left (by assumption)) hb7))
                clear hK K hHr9_0
                try simp only [Act.put, List.getElem_toArray, List.getElem_cons_succ, List.getElem_cons_zero, List.setIfInBounds_toArray, List.set_cons_zero, List.set_cons_succ]
                refine wpAnyH_ready (rs := [6]) (by kernel_rfl) (by simp) ?_
                refine AllReadyH.cons (o := _) rfl (fun K hK => ?_) AllReadyH.nil
                go_simp
                (go_at_call 17; refine (mnum_any _ _).mono ?_; rintro e w' ⟨rfl, rfl⟩)
                try (go_wp2_with fail)
                refine hK.out _ _ ?_ (fun hHr9_2 => ?_)
                · (try dsimp only); (first | assumption | exact hS _ (Bel.refl _).drew | exact hS _ (Bel.then_ (And.left (by assumption)) hb7))
                clear hK K hHr9_1
                try simp only [Act.put, List.getElem_toArray, List.getElem_cons_succ, List.getElem_cons_zero, List.setIfInBounds_toArray, List.set_cons_zero, List.set_cons_succ]
                refine wpAnyH_take (i := 7) (oi := _) (v := ?vr9_1_7) rfl (by kernel_rfl) (by kernel_rfl) (by kernel_rfl) ?hqr9_1_7 (Or.inl ⟨by kernel_rfl, ?hyr9_1_7⟩) (by assumption) ?restr9_1_7
                case hqr9_1_7 => exact fun _ _ _ h => h
                case hyr9_1_7 => (intro w hSw; (try dsimp only at hSw); go_simp; try with_reducible rfl)
                try simp only [Act.put, List.getElem_toArray, List.getElem_cons_succ, List.getElem_cons_zero, List.setIfInBounds_toArray, List.set_cons_zero, List.set_cons_succ]
                refine wpAnyH_take (i := 8) (oi := _) (v := ?vr9_1_8) rfl (by kernel_rfl) (by kernel_rfl) (by kernel_rfl) ?hqr9_1_8 (Or.inl ⟨by kernel_rfl, ?hyr9_1_8⟩) (by assumption) ?restr9_1_8
                case hqr9_1_8 => exact fun _ _ _ h => h
                case hyr9_1_8 => (intro w hSw; (try dsimp only at hSw); go_simp; try with_reducible rfl)
                try simp only [Act.put, List.getElem_toArray, List.getElem_cons_succ, List.getElem_cons_zero, List.setIfInBounds_toArray, List.set_cons_zero, List.set_cons_succ]
                refine wpAnyH_done (by kernel_rfl) ?_ _
                refine NoPanic.normal ?_
                obtain ⟨hfin, ⟨d0, d1, d2, d3⟩, e0, e1, e2, e3⟩ : (fun V : World => Bel (wo.alloc (.cells #[.string cn, .int .i64 ct, .int .i64 cz, .bool cnl] 44)) V ∧ (V.cell? ⟨wo.heap.size, 0, none⟩ = some (.string cn) ∧ V.cell? ⟨wo.heap.size, 1, none⟩ = some (.int .i64 ct) ∧ V.cell? ⟨wo.heap.size, 2, none⟩ = some (.int .i64 cz) ∧ V.cell? ⟨wo.heap.size, 3, none⟩ = some (.bool cnl)) ∧ V.cell? ⟨bl, ol + k * 4, none⟩ = some (.int .i64 xk) ∧ V.cell? ⟨bl, ol + k * 4 + 1, none⟩ = some (.int .i64 xn) ∧ V.cell? ⟨bl, ol + k * 4 + 2, none⟩ = some (.int .u64 xu) ∧ V.cell? ⟨bl, ol + k * 4 + 3, none⟩ = some (.string xb)) _ := (by assumption)
                have z2 := HFZ.out _ hfin 2 (by omega)
                have z3 := HFZ.out _ hfin 3 (by omega)
                have hlt9 : wo.heap.size < w7.heap.size := by have := hfin.size; simp at this; omega
                have hbo : Bel wo w7 := ((Bel.refl wo).alloc _).then_ hfin
                go_wp2_with fail
                refine wp_name ?_
                intro W2 hW2
                have g0 : W2.cell? ⟨wo.heap.size, 0, none⟩ = some (.string cn) := by rw [hW2]; go_simp
                have g1 : W2.cell? ⟨wo.heap.size, 1, none⟩ = some (.int .i64 ct) := by rw [hW2]; go_simp
                skip
                have g2 : W2.cell? ⟨wo.heap.size, 2, none⟩ = some (.int .i64 (wideI cz)) := by rw [hW2]; go_simp
                have g3 : W2.cell? ⟨wo.heap.size, 3, none⟩ = some (.bool true) := by rw [hW2]; go_simp
                have hbo2 : Bel wo W2 := by rw [hW2]; (repeat (first | exact hbo | refine Bel.alloc ?_ _ | refine Bel.setCell ?_ (by simp) _))
                have hbw2 : Bel w W2 := HBW.out.then_ hbo2
                have hQ2 : ∀ V, Bel W2 V → (fun V : World => Bel W2 V ∧ (V.cell? ⟨wo.heap.size, 0, none⟩ = some (.string cn) ∧ V.cell? ⟨wo.heap.size, 1, none⟩ = some (.int .i64 ct) ∧ V.cell? ⟨wo.heap.size, 2, none⟩ = some (.int .i64 (wideI cz)) ∧ V.cell? ⟨wo.heap.size, 3, none⟩ = some (.bool true)) ∧ V.cell? ⟨bl, ol + k * 4, none⟩ = some (.int .i64 xk) ∧ V.cell? ⟨bl, ol + k * 4 + 1, none⟩ = some (.int .i64 xn) ∧ V.cell? ⟨bl, ol + k * 4 + 2, none⟩ = some (.int .u64 xu) ∧ V.cell? ⟨bl, ol + k * 4 + 3, none⟩ = some (.string xb)) V := fun V h => ⟨h, ⟨h.c g0, h.c g1, h.c g2, h.c g3⟩, HE.out V (hbw2.then_ h)⟩
                clear hW2 hfin d0 d1 d2 d3 e0 e1 e2 e3 z2 z3 hlt9 hbo
                refine wp_region_noPanic ?_
                refine wp_region_held_drew (S := (fun V : World => Bel W2 V ∧ (V.cell? ⟨wo.heap.size, 0, none⟩ = some (.string cn) ∧ V.cell? ⟨wo.heap.size, 1, none⟩ = some (.int .i64 ct) ∧ V.cell? ⟨wo.heap.size, 2, none⟩ = some (.int .i64 (wideI cz)) ∧ V.cell? ⟨wo.heap.size, 3, none⟩ = some (.bool true)) ∧ V.cell? ⟨bl, ol + k * 4, none⟩ = some (.int .i64 xk) ∧ V.cell? ⟨bl, ol + k * 4 + 1, none⟩ = some (.int .i64 xn) ∧ V.cell? ⟨bl, ol + k * 4 + 2, none⟩ = some (.int .u64 xu) ∧ V.cell? ⟨bl, ol + k * 4 + 3, none⟩ = some (.string xb))) (by kernel_rfl) ?_ (fun hHr10_0 => ?_)
                · (try dsimp only); (first | assumption | exact hQ2 _ (Bel.refl _).drew | exact hQ2 _ (Bel.then_ (And.left (by assumption)) hb8))
                refine wpAnyH_take (i := 0) (oi := _) (v := ?vr10_1_0) rfl (by kernel_rfl) (by kernel_rfl) (by kernel_rfl) ?hqr10_1_0 (Or.inl ⟨by kernel_rfl, ?hyr10_1_0⟩) (by assumption) ?restr10_1_0
                case hqr10_1_0 => exact fun _ _ _ h => h
                case hyr10_1_0 => (intro w hSw; (try dsimp only at hSw); go_simp; try with_reducible rfl)
                try simp only [Act.put, List.getElem_toArray, List.getElem_cons_succ, List.getElem_cons_zero, List.setIfInBounds_toArray, List.set_cons_zero, List.set_cons_succ]
                refine wpAnyH_take (i := 1) (oi := _) (v := ?vr10_1_1) rfl (by kernel_rfl) (by kernel_rfl) (by kernel_rfl) ?hqr10_1_1 (Or.inl ⟨by kernel_rfl, ?hyr10_1_1⟩) (by assumption) ?restr10_1_1
                case hqr10_1_1 => exact fun _ _ _ h => h
                case hyr10_1_1 => (intro w hSw; (try dsimp only at hSw); go_simp; try with_reducible rfl)
                try simp only [Act.put, List.getElem_toArray, List.getElem_cons_succ, List.getElem_cons_zero, List.setIfInBounds_toArray, List.set_cons_zero, List.set_cons_succ]
                refine wpAnyH_take (i := 2) (oi := _) (v := ?vr10_1_2) rfl (by kernel_rfl) (by kernel_rfl) (by kernel_rfl) ?hqr10_1_2 (Or.inl ⟨by kernel_rfl, ?hyr10_1_2⟩) (by assumption) ?restr10_1_2
                case hqr10_1_2 => exact fun _ _ _ h => h
                case hyr10_1_2 => (intro w hSw; (try dsimp only at hSw); go_simp; try with_reducible rfl)
                try simp only [Act.put, List.getElem_toArray, List.getElem_cons_succ, List.getElem_cons_zero, List.setIfInBounds_toArray, List.set_cons_zero, List.set_cons_succ]
                refine wpAnyH_take (i := 3) (oi := _) (v := ?vr10_1_3) rfl (by kernel_rfl) (by kernel_rfl) (by kernel_rfl) ?hqr10_1_3 (Or.inl ⟨by kernel_rfl, ?hyr10_1_3⟩) (by assumption) ?restr10_1_3
                case hqr10_1_3 => exact fun _ _ _ h => h
                case hyr10_1_3 => (intro w hSw; (try dsimp only at hSw); go_simp; try with_reducible rfl)
                try simp only [Act.put, List.getElem_toArray, List.getElem_cons_succ, List.getElem_cons_zero, List.setIfInBounds_toArray, List.set_cons_zero, List.set_cons_succ]
                refine wpAnyH_take (i := 4) (oi := _) (v := ?vr10_1_4) rfl (by kernel_rfl) (by kernel_rfl) (by kernel_rfl) ?hqr10_1_4 (Or.inl ⟨by kernel_rfl, ?hyr10_1_4⟩) (by assumption) ?restr10_1_4
                case hqr10_1_4 => exact fun _ _ _ h => h
                case hyr10_1_4 => (intro w hSw; (try dsimp only at hSw); go_simp; try with_reducible rfl)
                try simp only [Act.put, List.getElem_toArray, List.getElem_cons_succ, List.getElem_cons_zero, List.setIfInBounds_toArray, List.set_cons_zero, List.set_cons_succ]
                refine wpAnyH_take (i := 5) (oi := _) (v := ?vr10_1_5) rfl (by kernel_rfl) (by kernel_rfl) (by kernel_rfl) ?hqr10_1_5 (Or.inl ⟨by kernel_rfl, ?hyr10_1_5⟩) (by assumption) ?restr10_1_5
                case hqr10_1_5 => exact fun _ _ _ h => h
                case hyr10_1_5 => (intro w hSw; (try dsimp only at hSw); go_simp; try with_reducible rfl)
                try simp only [Act.put, List.getElem_toArray, List.getElem_cons_succ, List.getElem_cons_zero, List.setIfInBounds_toArray, List.set_cons_zero, List.set_cons_succ]
                refine wpAnyH_take (i := 6) (oi := _) (v := ?vr10_1_6) rfl (by kernel_rfl) (by kernel_rfl) (by kernel_rfl) ?hqr10_1_6 (Or.inl ⟨by kernel_rfl, ?hyr10_1_6⟩) (by assumption) ?restr10_1_6
                case hqr10_1_6 => exact fun _ _ _ h => h
                case hyr10_1_6 => (intro w hSw; (try dsimp only at hSw); go_simp; try with_reducible rfl)
                try simp only [Act.put, List.getElem_toArray, List.getElem_cons_succ, List.getElem_cons_zero, List.setIfInBounds_toArray, List.set_cons_zero, List.set_cons_succ]
                refine wpAnyH_ready (rs := [7]) (by kernel_rfl) (by simp) ?_
                refine AllReadyH.cons (o := _) rfl (fun K hK => ?_) AllReadyH.nil
                go_simp
                (go_at_call 23; refine (HF2.out _ (hbw2.then_ (And.left (by assumption)))).mono ?_; rintro e w8 ⟨rfl, hb8⟩)
                try (go_wp2_with fail)
                refine hK.out _ _ ?_ (fun hHr10_1 => ?_)
                · (try dsimp only); (first | assumption | exact hQ2 _ (Bel.refl _).drew | exact hQ2 _ (Bel.then_ (And.left (by assumption)) hb8))
                clear hK K hHr10_0
                try simp only [Act.put, List.getElem_toArray, List.getElem_cons_succ, List.getElem_cons_zero, List.setIfInBounds_toArray, List.set_cons_zero, List.set_cons_succ]
                refine wpAnyH_ready (rs := [8]) (by kernel_rfl) (by simp) ?_
                refine AllReadyH.cons (o := _) rfl (fun K hK => ?_) AllReadyH.nil
                go_simp
                (go_at_call 17; refine (mnum_any _ _).mono ?_; rintro e w' ⟨rfl, rfl⟩)
                try (go_wp2_with fail)
                refine hK.out _ _ ?_ (fun hHr10_2 => ?_)
                · (try dsimp only); (first | assumption | exact hQ2 _ (Bel.refl _).drew | exact hQ2 _ (Bel.then_ (And.left (by assumption)) hb8))
                clear hK K hHr10_1
                try simp only [Act.put, List.getElem_toArray, List.getElem_cons_succ, List.getElem_cons_zero, List.setIfInBounds_toArray, List.set_cons_zero, List.set_cons_succ]
                refine wpAnyH_take (i := 9) (oi := _) (v := ?vr10_1_9) rfl (by kernel_rfl) (by kernel_rfl) (by kernel_rfl) ?hqr10_1_9 (Or.inl ⟨by kernel_rfl, ?hyr10_1_9⟩) (by assumption) ?restr10_1_9
                case hqr10_1_9 => exact fun _ _ _ h => h
                case hyr10_1_9 => (intro w hSw; (try dsimp only at hSw); go_simp; try with_reducible rfl)
                try simp only [Act.put, List.getElem_toArray, List.getElem_cons_succ, List.getElem_cons_zero, List.setIfInBounds_toArray, List.set_cons_zero, List.set_cons_succ]
                refine wpAnyH_take (i := 10) (oi := _) (v := ?vr10_1_10) rfl (by kernel_rfl) (by kernel_rfl) (by kernel_rfl) ?hqr10_1_10 (Or.inl ⟨by kernel_rfl, ?hyr10_1_10⟩) (by assumption) ?restr10_1_10
                case hqr10_1_10 => exact fun _ _ _ h => h
                case hyr10_1_10 => (intro w hSw; (try dsimp only at hSw); go_simp; try with_reducible rfl)
                try simp only [Act.put, List.getElem_toArray, List.getElem_cons_succ, List.getElem_cons_zero, List.setIfInBounds_toArray, List.set_cons_zero, List.set_cons_succ]
                refine wpAnyH_done (by kernel_rfl) ?_ _
                refine NoPanic.normal ?_
                have hfin2 : Bel wo _ := hbo2.then_ (And.left (by assumption))
                go_wp2_with fail
                go_roundw
                case rel => exact ⟨k + 1, by have := H1.out; omega, by have := H2.out; omega, by go_num, by rw [HSU.out]; first | rfl | simp, HB.out.then_ hfin2⟩
                case measure => have := H1.out; simp [intOf]; omega
              · rw [ha] at HSU
                clear ha
                go_wp2_with fail
                refine wp_region_noPanic ?_
                refine wp_region_held_drew (S := (fun V : World => Bel (wo.alloc (.cells #[.string cn, .int .i64 ct, .int .i64 cz, .bool cnl] 44)) V ∧ (V.cell? ⟨wo.heap.size, 0, none⟩ = some (.string cn) ∧ V.cell? ⟨wo.heap.size, 1, none⟩ = some (.int .i64 ct) ∧ V.cell? ⟨wo.heap.size, 2, none⟩ = some (.int .i64 cz) ∧ V.cell? ⟨wo.heap.size, 3, none⟩ = some (.bool cnl)) ∧ V.cell? ⟨bl, ol + k * 4, none⟩ = some (.int .i64 xk) ∧ V.cell? ⟨bl, ol + k * 4 + 1, none⟩ = some (.int .i64 xn) ∧ V.cell? ⟨bl, ol + k * 4 + 2, none⟩ = some (.int .u64 xu) ∧ V.cell? ⟨bl, ol + k * 4 + 3, none⟩ = some (.string xb))) (by kernel_rfl) ?_ (fun hHr11_0 => ?_)
                · (try dsimp only); (first | assumption | exact hS _ (Bel.refl _).drew | exact hS _ (Bel.then_ (And.left (by assumption)) hb7))
                refine wpAnyH_take (i := 0) (oi := _) (v := ?vr11_1_0) rfl (by kernel_rfl) (by kernel_rfl) (by kernel_rfl) ?hqr11_1_0 (Or.inl ⟨by kernel_rfl, ?hyr11_1_0⟩) (by assumption) ?restr11_1_0
                case hqr11_1_0 => exact fun _ _ _ h => h
                case hyr11_1_0 => (intro w hSw; (try dsimp only at hSw); go_simp; try with_reducible rfl)
                try simp only [Act.put, List.getElem_toArray, List.getElem_cons_succ, List.getElem_cons_zero, List.setIfInBounds_toArray, List.set_cons_zero, List.set_cons_succ]
                refine wpAnyH_take (i := 1) (oi := _) (v := ?vr11_1_1) rfl (by kernel_rfl) (by kernel_rfl) (by kernel_rfl) ?hqr11_1_1 (Or.inl ⟨by kernel_rfl, ?hyr11_1_1⟩) (by assumption) ?restr11_1_1
                case hqr11_1_1 => exact fun _ _ _ h => h
                case hyr11_1_1 => (intro w hSw; (try dsimp only at hSw); go_simp; try with_reducible rfl)
                try simp only [Act.put, List.getElem_toArray, List.getElem_cons_succ, List.getElem_cons_zero, List.setIfInBounds_toArray, List.set_cons_zero, List.set_cons_succ]
                refine wpAnyH_take (i := 2) (oi := _) (v := ?vr11_1_2) rfl (by kernel_rfl) (by kernel_rfl) (by kernel_rfl) ?hqr11_1_2 (Or.inl ⟨by kernel_rfl, ?hyr11_1_2⟩) (by assumption) ?restr11_1_2
                case hqr11_1_2 => exact fun _ _ _ h => h
                case hyr11_1_2 => (intro w hSw; (try dsimp only at hSw); go_simp; try with_reducible rfl)
                try simp only [Act.put, List.getElem_toArray, List.getElem_cons_succ, List.getElem_cons_zero, List.setIfInBounds_toArray, List.set_cons_zero, List.set_cons_succ]
                refine wpAnyH_take (i := 3) (oi := _) (v := ?vr11_1_3) rfl (by kernel_rfl) (by kernel_rfl) (by kernel_rfl) ?hqr11_1_3 (Or.inl ⟨by kernel_rfl, ?hyr11_1_3⟩) (by assumption) ?restr11_1_3
                case hqr11_1_3 => exact fun _ _ _ h => h
                case hyr11_1_3 => (intro w hSw; (try dsimp only at hSw); go_simp; try with_reducible rfl)
                try simp only [Act.put, List.getElem_toArray, List.getElem_cons_succ, List.getElem_cons_zero, List.setIfInBounds_toArray, List.set_cons_zero, List.set_cons_succ]
                refine wpAnyH_take (i := 4) (oi := _) (v := ?vr11_1_4) rfl (by kernel_rfl) (by kernel_rfl) (by kernel_rfl) ?hqr11_1_4 (Or.inl ⟨by kernel_rfl, ?hyr11_1_4⟩) (by assumption) ?restr11_1_4
                case hqr11_1_4 => exact fun _ _ _ h => h
                case hyr11_1_4 => (intro w hSw; (try dsimp only at hSw); go_simp; try with_reducible rfl)
                try simp only [Act.put, List.getElem_toArray, List.getElem_cons_succ, List.getElem_cons_zero, List.setIfInBounds_toArray, List.set_cons_zero, List.set_cons_succ]
                refine wpAnyH_ready (rs := [5]) (by kernel_rfl) (by simp) ?_
                refine AllReadyH.cons (o := _) rfl (fun K hK => ?_) AllReadyH.nil
                go_simp
                (go_at_call 23; refine (HF1.out _ (hbw1.then_ (And.left (by assumption)))).mono ?_; rintro e w7 ⟨rfl, hb7⟩)
                try (go_wp2_with fail)
                refine hK.out _ _ ?_ (fun hHr11_1 => ?_)
                · (try dsimp only); (first | assumption | exact hS _ (Bel.refl _).drew | exact hS _ (Bel.then_ (And.left (by assumption)) hb7))
                clear hK K hHr11_0
                try simp only [Act.put, List.getElem_toArray, List.getElem_cons_succ, List.getElem_cons_zero, List.setIfInBounds_toArray, List.set_cons_zero, List.set_cons_succ]
                refine wpAnyH_ready (rs := [6]) (by kernel_rfl) (by simp) ?_
                refine AllReadyH.cons (o := _) rfl (fun K hK => ?_) AllReadyH.nil
                go_simp
                (go_at_call 17; refine (mnum_any _ _).mono ?_; rintro e w' ⟨rfl, rfl⟩)
                try (go_wp2_with fail)
                refine hK.out _ _ ?_ (fun hHr11_2 => ?_)
                · (try dsimp only); (first | assumption | exact hS _ (Bel.refl _).drew | exact hS _ (Bel.then_ (And.left (by assumption)) hb7))
                clear hK K hHr11_1
                try simp only [Act.put, List.getElem_toArray, List.getElem_cons_succ, List.getElem_cons_zero, List.setIfInBounds_toArray, List.set_cons_zero, List.set_cons_succ]
                refine wpAnyH_take (i := 7) (oi := _) (v := ?vr11_1_7) rfl (by kernel_rfl) (by kernel_rfl) (by kernel_rfl) ?hqr11_1_7 (Or.inl ⟨by kernel_rfl, ?hyr11_1_7⟩) (by assumption) ?restr11_1_7
                case hqr11_1_7 => exact fun _ _ _ h => h
                case hyr11_1_7 => (intro w hSw; (try dsimp only at hSw); go_simp; try with_reducible rfl)
                try simp only [Act.put, List.getElem_toArray, List.getElem_cons_succ, List.getElem_cons_zero, List.setIfInBounds_toArray, List.set_cons_zero, List.set_cons_succ]
                refine wpAnyH_take (i := 8) (oi := _) (v := ?vr11_1_8) rfl (by kernel_rfl) (by kernel_rfl) (by kernel_rfl) ?hqr11_1_8 (Or.inl ⟨by kernel_rfl, ?hyr11_1_8⟩) (by assumption) ?restr11_1_8
                case hqr11_1_8 => exact fun _ _ _ h => h
                case hyr11_1_8 => (intro w hSw; (try dsimp only at hSw); go_simp; try with_reducible rfl)
                try simp only [Act.put, List.getElem_toArray, List.getElem_cons_succ, List.getElem_cons_zero, List.setIfInBounds_toArray, List.set_cons_zero, List.set_cons_succ]
                refine wpAnyH_done (by kernel_rfl) ?_ _
                refine NoPanic.normal ?_
                obtain ⟨hfin, ⟨d0, d1, d2, d3⟩, e0, e1, e2, e3⟩ : (fun V : World => Bel (wo.alloc (.cells #[.string cn, .int .i64 ct, .int .i64 cz, .bool cnl] 44)) V ∧ (V.cell? ⟨wo.heap.size, 0, none⟩ = some (.string cn) ∧ V.cell? ⟨wo.heap.size, 1, none⟩ = some (.int .i64 ct) ∧ V.cell? ⟨wo.heap.size, 2, none⟩ = some (.int .i64 cz) ∧ V.cell? ⟨wo.heap.size, 3, none⟩ = some (.bool cnl)) ∧ V.cell? ⟨bl, ol + k * 4, none⟩ = some (.int .i64 xk) ∧ V.cell? ⟨bl, ol + k * 4 + 1, none⟩ = some (.int .i64 xn) ∧ V.cell? ⟨bl, ol + k * 4 + 2, none⟩ = some (.int .u64 xu) ∧ V.cell? ⟨bl, ol + k * 4 + 3, none⟩ = some (.string xb)) _ := (by assumption)
                have z2 := HFZ.out _ hfin 2 (by omega)
                have z3 := HFZ.out _ hfin 3 (by omega)
                have hlt9 : wo.heap.size < w7.heap.size := by have := hfin.size; simp at this; omega
                have hbo : Bel wo w7 := ((Bel.refl wo).alloc _).then_ hfin
                go_wp2_with fail
                refine wp_name ?_
                intro W2 hW2
                have g0 : W2.cell? ⟨wo.heap.size, 0, none⟩ = some (.string cn) := by rw [hW2]; go_simp
                have g1 : W2.cell? ⟨wo.heap.size, 1, none⟩ = some (.int .i64 ct) := by rw [hW2]; go_simp
                skip
                have g2 : W2.cell? ⟨wo.heap.size, 2, none⟩ = some (.int .i64 (wideI cz)) := by rw [hW2]; go_simp
                have g3 : W2.cell? ⟨wo.heap.size, 3, none⟩ = some (.bool true) := by rw [hW2]; go_simp
                have hbo2 : Bel wo W2 := by rw [hW2]; (repeat (first | exact hbo | refine Bel.alloc ?_ _ | refine Bel.setCell ?_ (by simp) _))
                have hbw2 : Bel w W2 := HBW.out.then_ hbo2
                have hQ2 : ∀ V, Bel W2 V → (fun V : World => Bel W2 V ∧ (V.cell? ⟨wo.heap.size, 0, none⟩ = some (.string cn) ∧ V.cell? ⟨wo.heap.size, 1, none⟩ = some (.int .i64 ct) ∧ V.cell? ⟨wo.heap.size, 2, none⟩ = some (.int .i64 (wideI cz)) ∧ V.cell? ⟨wo.heap.size, 3, none⟩ = some (.bool true)) ∧ V.cell? ⟨bl, ol + k * 4, none⟩ = some (.int .i64 xk) ∧ V.cell? ⟨bl, ol + k * 4 + 1, none⟩ = some (.int .i64 xn) ∧ V.cell? ⟨bl, ol + k * 4 + 2, none⟩ = some (.int .u64 xu) ∧ V.cell? ⟨bl, ol + k * 4 + 3, none⟩ = some (.string xb)) V := fun V h => ⟨h, ⟨h.c g0, h.c g1, h.c g2, h.c g3⟩, HE.out V (hbw2.then_ h)⟩
                clear hW2 hfin d0 d1 d2 d3 e0 e1 e2 e3 z2 z3 hlt9 hbo
                refine wp_region_noPanic ?_
                refine wp_region_held_drew (S := (fun V : World => Bel W2 V ∧ (V.cell? ⟨wo.heap.size, 0, none⟩ = some (.string cn) ∧ V.cell? ⟨wo.heap.size, 1, none⟩ = some (.int .i64 ct) ∧ V.cell? ⟨wo.heap.size, 2, none⟩ = some (.int .i64 (wideI cz)) ∧ V.cell? ⟨wo.heap.size, 3, none⟩ = some (.bool true)) ∧ V.cell? ⟨bl, ol + k * 4, none⟩ = some (.int .i64 xk) ∧ V.cell? ⟨bl, ol + k * 4 + 1, none⟩ = some (.int .i64 xn) ∧ V.cell? ⟨bl, ol + k * 4 + 2, none⟩ = some (.int .u64 xu) ∧ V.cell? ⟨bl, ol + k * 4 + 3, none⟩ = some (.string xb))) (by kernel_rfl) ?_ (fun hHr12_0 => ?_)
                · (try dsimp only); (first | assumption | exact hQ2 _ (Bel.refl _).drew | exact hQ2 _ (Bel.then_ (And.left (by assumption)) hb8))
                refine wpAnyH_take (i := 0) (oi := _) (v := ?vr12_1_0) rfl (by kernel_rfl) (by kernel_rfl) (by kernel_rfl) ?hqr12_1_0 (Or.inl ⟨by kernel_rfl, ?hyr12_1_0⟩) (by assumption) ?restr12_1_0
                case hqr12_1_0 => exact fun _ _ _ h => h
                case hyr12_1_0 => (intro w hSw; (try dsimp only at hSw); go_simp; try with_reducible rfl)
                try simp only [Act.put, List.getElem_toArray, List.getElem_cons_succ, List.getElem_cons_zero, List.setIfInBounds_toArray, List.set_cons_zero, List.set_cons_succ]
                refine wpAnyH_take (i := 1) (oi := _) (v := ?vr12_1_1) rfl (by kernel_rfl) (by kernel_rfl) (by kernel_rfl) ?hqr12_1_1 (Or.inl ⟨by kernel_rfl, ?hyr12_1_1⟩) (by assumption) ?restr12_1_1
                case hqr12_1_1 => exact fun _ _ _ h => h
                case hyr12_1_1 => (intro w hSw; (try dsimp only at hSw); go_simp; try with_reducible rfl)
                try simp only [Act.put, List.getElem_toArray, List.getElem_cons_succ, List.getElem_cons_zero, List.setIfInBounds_toArray, List.set_cons_zero, List.set_cons_succ]
                refine wpAnyH_take (i := 2) (oi := _) (v := ?vr12_1_2) rfl (by kernel_rfl) (by kernel_rfl) (by kernel_rfl) ?hqr12_1_2 (Or.inl ⟨by kernel_rfl, ?hyr12_1_2⟩) (by assumption) ?restr12_1_2
                case hqr12_1_2 => exact fun _ _ _ h => h
                case hyr12_1_2 => (intro w hSw; (try dsimp only at hSw); go_simp; try with_reducible rfl)
                try simp only [Act.put, List.getElem_toArray, List.getElem_cons_succ, List.getElem_cons_zero, List.setIfInBounds_toArray, List.set_cons_zero, List.set_cons_succ]
                refine wpAnyH_take (i := 3) (oi := _) (v := ?vr12_1_3) rfl (by kernel_rfl) (by kernel_rfl) (by kernel_rfl) ?hqr12_1_3 (Or.inl ⟨by kernel_rfl, ?hyr12_1_3⟩) (by assumption) ?restr12_1_3
                case hqr12_1_3 => exact fun _ _ _ h => h
                case hyr12_1_3 => (intro w hSw; (try dsimp only at hSw); go_simp; try with_reducible rfl)
                try simp only [Act.put, List.getElem_toArray, List.getElem_cons_succ, List.getElem_cons_zero, List.setIfInBounds_toArray, List.set_cons_zero, List.set_cons_succ]
                refine wpAnyH_take (i := 4) (oi := _) (v := ?vr12_1_4) rfl (by kernel_rfl) (by kernel_rfl) (by kernel_rfl) ?hqr12_1_4 (Or.inl ⟨by kernel_rfl, ?hyr12_1_4⟩) (by assumption) ?restr12_1_4
                case hqr12_1_4 => exact fun _ _ _ h => h
                case hyr12_1_4 => (intro w hSw; (try dsimp only at hSw); go_simp; try with_reducible rfl)
                try simp only [Act.put, List.getElem_toArray, List.getElem_cons_succ, List.getElem_cons_zero, List.setIfInBounds_toArray, List.set_cons_zero, List.set_cons_succ]
                refine wpAnyH_take (i := 5) (oi := _) (v := ?vr12_1_5) rfl (by kernel_rfl) (by kernel_rfl) (by kernel_rfl) ?hqr12_1_5 (Or.inl ⟨by kernel_rfl, ?hyr12_1_5⟩) (by assumption) ?restr12_1_5
                case hqr12_1_5 => exact fun _ _ _ h => h
                case hyr12_1_5 => (intro w hSw; (try dsimp only at hSw); go_simp; try with_reducible rfl)
                try simp only [Act.put, List.getElem_toArray, List.getElem_cons_succ, List.getElem_cons_zero, List.setIfInBounds_toArray, List.set_cons_zero, List.set_cons_succ]
                refine wpAnyH_take (i := 6) (oi := _) (v := ?vr12_1_6) rfl (by kernel_rfl) (by kernel_rfl) (by kernel_rfl) ?hqr12_1_6 (Or.inl ⟨by kernel_rfl, ?hyr12_1_6⟩) (by assumption) ?restr12_1_6
                case hqr12_1_6 => exact fun _ _ _ h => h
                case hyr12_1_6 => (intro w hSw; (try dsimp only at hSw); go_simp; try with_reducible rfl)
                try simp only [Act.put, List.getElem_toArray, List.getElem_cons_succ, List.getElem_cons_zero, List.setIfInBounds_toArray, List.set_cons_zero, List.set_cons_succ]
                refine wpAnyH_ready (rs := [7]) (by kernel_rfl) (by simp) ?_
                refine AllReadyH.cons (o := _) rfl (fun K hK => ?_) AllReadyH.nil
                go_simp
                (go_at_call 23; refine (HF2.out _ (hbw2.then_ (And.left (by assumption)))).mono ?_; rintro e w8 ⟨rfl, hb8⟩)
                try (go_wp2_with fail)
                refine hK.out _ _ ?_ (fun hHr12_1 => ?_)
                · (try dsimp only); (first | assumption | exact hQ2 _ (Bel.refl _).drew | exact hQ2 _ (Bel.then_ (And.left (by assumption)) hb8))
                clear hK K hHr12_0
                try simp only [Act.put, List.getElem_toArray, List.getElem_cons_succ, List.getElem_cons_zero, List.setIfInBounds_toArray, List.set_cons_zero, List.set_cons_succ]
                refine wpAnyH_ready (rs := [8]) (by kernel_rfl) (by simp) ?_
                refine AllReadyH.cons (o := _) rfl (fun K hK => ?_) AllReadyH.nil
                go_simp
                (go_at_call 17; refine (mnum_any _ _).mono ?_; rintro e w' ⟨rfl, rfl⟩)
                try (go_wp2_with fail)
                refine hK.out _ _ ?_ (fun hHr12_2 => ?_)
                · (try dsimp only); (first | assumption | exact hQ2 _ (Bel.refl _).drew | exact hQ2 _ (Bel.then_ (And.left (by assumption)) hb8))
                clear hK K hHr12_1
                try simp only [Act.put, List.getElem_toArray, List.getElem_cons_succ, List.getElem_cons_zero, List.setIfInBounds_toArray, List.set_cons_zero, List.set_cons_succ]
                refine wpAnyH_take (i := 9) (oi := _) (v := ?vr12_1_9) rfl (by kernel_rfl) (by kernel_rfl) (by kernel_rfl) ?hqr12_1_9 (Or.inl ⟨by kernel_rfl, ?hyr12_1_9⟩) (by assumption) ?restr12_1_9
                case hqr12_1_9 => exact fun _ _ _ h => h
                case hyr12_1_9 => (intro w hSw; (try dsimp only at hSw); go_simp; try with_reducible rfl)
                try simp only [Act.put, List.getElem_toArray, List.getElem_cons_succ, List.getElem_cons_zero, List.setIfInBounds_toArray, List.set_cons_zero, List.set_cons_succ]
                refine wpAnyH_take (i := 10) (oi := _) (v := ?vr12_1_10) rfl (by kernel_rfl) (by kernel_rfl) (by kernel_rfl) ?hqr12_1_10 (Or.inl ⟨by kernel_rfl, ?hyr12_1_10⟩) (by assumption) ?restr12_1_10
                case hqr12_1_10 => exact fun _ _ _ h => h
                case hyr12_1_10 => (intro w hSw; (try dsimp only at hSw); go_simp; try with_reducible rfl)
                try simp only [Act.put, List.getElem_toArray, List.getElem_cons_succ, List.getElem_cons_zero, List.setIfInBounds_toArray, List.set_cons_zero, List.set_cons_succ]
                refine wpAnyH_done (by kernel_rfl) ?_ _
                refine NoPanic.normal ?_
                have hfin2 : Bel wo _ := hbo2.then_ (And.left (by assumption))
                go_wp2_with fail
                go_roundw
                case rel => exact ⟨k + 1, by have := H1.out; omega, by have := H2.out; omega, by go_num, by rw [HSU.out]; first | rfl | simp, HB.out.then_ hfin2⟩
                case measure => have := H1.out; simp [intOf]; omega
        · have hr0b : (r == 0) = false := by simpa using hr0
          clear HGR HF2
          by_cases ht3 : ct = 3
          · subst ht3
            cases ha : allFit cols l k
            · rw [ha] at HSU
              clear ha
              go_wp2_with fail
              refine wp_region_noPanic ?_
              refine wp_region_held_drew (S := (fun V : World => Bel (wo.alloc (.cells #[.string cn, .int .i64 3, .int .i64 cz, .bool cnl] 44)) V ∧ (V.cell? ⟨wo.heap.size, 0, none⟩ = some (.string cn) ∧ V.cell? ⟨wo.heap.size, 1, none⟩ = some (.int .i64 3) ∧ V.cell? ⟨wo.heap.size, 2, none⟩ = some (.int .i64 cz) ∧ V.cell? ⟨wo.heap.size, 3, none⟩ = some (.bool cnl)) ∧ V.cell? ⟨bl, ol + k * 4, none⟩ = some (.int .i64 xk) ∧ V.cell? ⟨bl, ol + k * 4 + 1, none⟩ = some (.int .i64 xn) ∧ V.cell? ⟨bl, ol + k * 4 + 2, none⟩ = some (.int .u64 xu) ∧ V.cell? ⟨bl, ol + k * 4 + 3, none⟩ = some (.string xb))) (by kernel_rfl) ?_ (fun hHr13_0 => ?_)
              · (try dsimp only); (first | assumption | exact hS _ (Bel.refl _).drew | exact hS _ (Bel.then_ (And.left (by assumption)) hb7))
              refine wpAnyH_take (i := 0) (oi := _) (v := ?vr13_1_0) rfl (by kernel_rfl) (by kernel_rfl) (by kernel_rfl) ?hqr13_1_0 (Or.inl ⟨by kernel_rfl, ?hyr13_1_0⟩) (by assumption) ?restr13_1_0
              case hqr13_1_0 => exact fun _ _ _ h => h
              case hyr13_1_0 => (intro w hSw; (try dsimp only at hSw); go_simp; try with_reducible rfl)
              try simp only [Act.put, List.getElem_toArray, List.getElem_cons_succ, List.getElem_cons_zero, List.setIfInBounds_toArray, List.set_cons_zero, List.set_cons_succ]
              refine wpAnyH_take (i := 1) (oi := _) (v := ?vr13_1_1) rfl (by kernel_rfl) (by kernel_rfl) (by kernel_rfl) ?hqr13_1_1 (Or.inl ⟨by kernel_rfl, ?hyr13_1_1⟩) (by assumption) ?restr13_1_1
              case hqr13_1_1 => exact fun _ _ _ h => h
              case hyr13_1_1 => (intro w hSw; (try dsimp only at hSw); go_simp; try with_reducible rfl)
              try simp only [Act.put, List.getElem_toArray, List.getElem_cons_succ, List.getElem_cons_zero, List.setIfInBounds_toArray, List.set_cons_zero, List.set_cons_succ]
              refine wpAnyH_take (i := 2) (oi := _) (v := ?vr13_1_2) rfl (by kernel_rfl) (by kernel_rfl) (by kernel_rfl) ?hqr13_1_2 (Or.inl ⟨by kernel_rfl, ?hyr13_1_2⟩) (by assumption) ?restr13_1_2
              case hqr13_1_2 => exact fun _ _ _ h => h
              case hyr13_1_2 => (intro w hSw; (try dsimp only at hSw); go_simp; try with_reducible rfl)
              try simp only [Act.put, List.getElem_toArray, List.getElem_cons_succ, List.getElem_cons_zero, List.setIfInBounds_toArray, List.set_cons_zero, List.set_cons_succ]
              refine wpAnyH_take (i := 3) (oi := _) (v := ?vr13_1_3) rfl (by kernel_rfl) (by kernel_rfl) (by kernel_rfl) ?hqr13_1_3 (Or.inl ⟨by kernel_rfl, ?hyr13_1_3⟩) (by assumption) ?restr13_1_3
              case hqr13_1_3 => exact fun _ _ _ h => h
              case hyr13_1_3 => (intro w hSw; (try dsimp only at hSw); go_simp; try with_reducible rfl)
              try simp only [Act.put, List.getElem_toArray, List.getElem_cons_succ, List.getElem_cons_zero, List.setIfInBounds_toArray, List.set_cons_zero, List.set_cons_succ]
              refine wpAnyH_take (i := 4) (oi := _) (v := ?vr13_1_4) rfl (by kernel_rfl) (by kernel_rfl) (by kernel_rfl) ?hqr13_1_4 (Or.inl ⟨by kernel_rfl, ?hyr13_1_4⟩) (by assumption) ?restr13_1_4
              case hqr13_1_4 => exact fun _ _ _ h => h
              case hyr13_1_4 => (intro w hSw; (try dsimp only at hSw); go_simp; try with_reducible rfl)
              try simp only [Act.put, List.getElem_toArray, List.getElem_cons_succ, List.getElem_cons_zero, List.setIfInBounds_toArray, List.set_cons_zero, List.set_cons_succ]
              refine wpAnyH_ready (rs := [5]) (by kernel_rfl) (by simp) ?_
              refine AllReadyH.cons (o := _) rfl (fun K hK => ?_) AllReadyH.nil
              go_simp
              (go_at_call 23; refine (HF1.out _ (hbw1.then_ (And.left (by assumption)))).mono ?_; rintro e w7 ⟨rfl, hb7⟩)
              try (go_wp2_with fail)
              refine hK.out _ _ ?_ (fun hHr13_1 => ?_)
              · (try dsimp only); (first | assumption | exact hS _ (Bel.refl _).drew | exact hS _ (Bel.then_ (And.left (by assumption)) hb7))
              clear hK K hHr13_0
              try simp only [Act.put, List.getElem_toArray, List.getElem_cons_succ, List.getElem_cons_zero, List.setIfInBounds_toArray, List.set_cons_zero, List.set_cons_succ]
              refine wpAnyH_ready (rs := [6]) (by kernel_rfl) (by simp) ?_
              refine AllReadyH.cons (o := _) rfl (fun K hK => ?_) AllReadyH.nil
              go_simp
              (go_at_call 17; refine (mnum_any _ _).mono ?_; rintro e w' ⟨rfl, rfl⟩)
              try (go_wp2_with fail)
              refine hK.out _ _ ?_ (fun hHr13_2 => ?_)
              · (try dsimp only); (first | assumption | exact hS _ (Bel.refl _).drew | exact hS _ (Bel.then_ (And.left (by assumption)) hb7))
              clear hK K hHr13_1
              try simp only [Act.put, List.getElem_toArray, List.getElem_cons_succ, List.getElem_cons_zero, List.setIfInBounds_toArray, List.set_cons_zero, List.set_cons_succ]
              refine wpAnyH_take (i := 7) (oi := _) (v := ?vr13_1_7) rfl (by kernel_rfl) (by kernel_rfl) (by kernel_rfl) ?hqr13_1_7 (Or.inl ⟨by kernel_rfl, ?hyr13_1_7⟩) (by assumption) ?restr13_1_7
              case hqr13_1_7 => exact fun _ _ _ h => h
              case hyr13_1_7 => (intro w hSw; (try dsimp only at hSw); go_simp; try with_reducible rfl)
              try simp only [Act.put, List.getElem_toArray, List.getElem_cons_succ, List.getElem_cons_zero, List.setIfInBounds_toArray, List.set_cons_zero, List.set_cons_succ]
              refine wpAnyH_take (i := 8) (oi := _) (v := ?vr13_1_8) rfl (by kernel_rfl) (by kernel_rfl) (by kernel_rfl) ?hqr13_1_8 (Or.inl ⟨by kernel_rfl, ?hyr13_1_8⟩) (by assumption) ?restr13_1_8
              case hqr13_1_8 => exact fun _ _ _ h => h
              case hyr13_1_8 => (intro w hSw; (try dsimp only at hSw); go_simp; try with_reducible rfl)
              try simp only [Act.put, List.getElem_toArray, List.getElem_cons_succ, List.getElem_cons_zero, List.setIfInBounds_toArray, List.set_cons_zero, List.set_cons_succ]
              refine wpAnyH_done (by kernel_rfl) ?_ _
              refine NoPanic.normal ?_
              obtain ⟨hfin, ⟨d0, d1, d2, d3⟩, e0, e1, e2, e3⟩ : (fun V : World => Bel (wo.alloc (.cells #[.string cn, .int .i64 3, .int .i64 cz, .bool cnl] 44)) V ∧ (V.cell? ⟨wo.heap.size, 0, none⟩ = some (.string cn) ∧ V.cell? ⟨wo.heap.size, 1, none⟩ = some (.int .i64 3) ∧ V.cell? ⟨wo.heap.size, 2, none⟩ = some (.int .i64 cz) ∧ V.cell? ⟨wo.heap.size, 3, none⟩ = some (.bool cnl)) ∧ V.cell? ⟨bl, ol + k * 4, none⟩ = some (.int .i64 xk) ∧ V.cell? ⟨bl, ol + k * 4 + 1, none⟩ = some (.int .i64 xn) ∧ V.cell? ⟨bl, ol + k * 4 + 2, none⟩ = some (.int .u64 xu) ∧ V.cell? ⟨bl, ol + k * 4 + 3, none⟩ = some (.string xb)) _ := (by assumption)
              have z2 := HFZ.out _ hfin 2 (by omega)
              have z3 := HFZ.out _ hfin 3 (by omega)
              have hlt9 : wo.heap.size < w7.heap.size := by have := hfin.size; simp at this; omega
              have hbo : Bel wo w7 := ((Bel.refl wo).alloc _).then_ hfin
              go_wp2_with fail
              refine wp_name ?_
              intro W2 hW2
              have g0 : W2.cell? ⟨wo.heap.size, 0, none⟩ = some (.string cn) := by rw [hW2]; go_simp
              have g1 : W2.cell? ⟨wo.heap.size, 1, none⟩ = some (.int .i64 3) := by rw [hW2]; go_simp
              skip
              have g2 : W2.cell? ⟨wo.heap.size, 2, none⟩ = some (.int .i64 cz) := by rw [hW2]; go_simp
              have g3 : W2.cell? ⟨wo.heap.size, 3, none⟩ = some (.bool true) := by rw [hW2]; go_simp
              have hbo2 : Bel wo W2 := by rw [hW2]; (repeat (first | exact hbo | refine Bel.alloc ?_ _ | refine Bel.setCell ?_ (by simp) _))
              have hbw2 : Bel w W2 := HBW.out.then_ hbo2
              have hQ2 : ∀ V, Bel W2 V → (fun V : World => Bel W2 V ∧ (V.cell? ⟨wo.heap.size, 0, none⟩ = some (.string cn) ∧ V.cell? ⟨wo.heap.size, 1, none⟩ = some (.int .i64 3) ∧ V.cell? ⟨wo.heap.size, 2, none⟩ = some (.int .i64 cz) ∧ V.cell? ⟨wo.heap.size, 3, none⟩ = some (.bool true)) ∧ V.cell? ⟨bl, ol + k * 4, none⟩ = some (.int .i64 xk) ∧ V.cell? ⟨bl, ol + k * 4 + 1, none⟩ = some (.int .i64 xn) ∧ V.cell? ⟨bl, ol + k * 4 + 2, none⟩ = some (.int .u64 xu) ∧ V.cell? ⟨bl, ol + k * 4 + 3, none⟩ = some (.string xb)) V := fun V h => ⟨h, ⟨h.c g0, h.c g1, h.c g2, h.c g3⟩, HE.out V (hbw2.then_ h)⟩
              clear hW2 hfin d0 d1 d2 d3 e0 e1 e2 e3 z2 z3 hlt9 hbo
              refine wp_region_noPanic ?_
              refine wp_region_held_drew (S := (fun V : World => Bel W2 V ∧ (V.cell? ⟨wo.heap.size, 0, none⟩ = some (.string cn) ∧ V.cell? ⟨wo.heap.size, 1, none⟩ = some (.int .i64 3) ∧ V.cell? ⟨wo.heap.size, 2, none⟩ = some (.int .i64 cz) ∧ V.cell? ⟨wo.heap.size, 3, none⟩ = some (.bool true)) ∧ V.cell? ⟨bl, ol + k * 4, none⟩ = some (.int .i64 xk) ∧ V.cell? ⟨bl, ol + k * 4 + 1, none⟩ = some (.int .i64 xn) ∧ V.cell? ⟨bl, ol + k * 4 + 2, none⟩ = some (.int .u64 xu) ∧ V.cell? ⟨bl, ol + k * 4 + 3, none⟩ = some (.string xb))) (by kernel_rfl) ?_ (fun hHr14_0 => ?_)
              · (try dsimp only); (first | assumption | exact hQ2 _ (Bel.refl _).drew)
              refine wpAnyH_take (i := 0) (oi := _) (v := ?vr14_1_0) rfl (by kernel_rfl) (by kernel_rfl) (by kernel_rfl) ?hqr14_1_0 (Or.inl ⟨by kernel_rfl, ?hyr14_1_0⟩) (by assumption) ?restr14_1_0
              case hqr14_1_0 => exact fun _ _ _ h => h
              case hyr14_1_0 => (intro w hSw; (try dsimp only at hSw); go_simp; try with_reducible rfl)
              try simp only [Act.put, List.getElem_toArray, List.getElem_cons_succ, List.getElem_cons_zero, List.setIfInBounds_toArray, List.set_cons_zero, List.set_cons_succ]
              refine wpAnyH_take (i := 1) (oi := _) (v := ?vr14_1_1) rfl (by kernel_rfl) (by kernel_rfl) (by kernel_rfl) ?hqr14_1_1 (Or.inl ⟨by kernel_rfl, ?hyr14_1_1⟩) (by assumption) ?restr14_1_1
              case hqr14_1_1 => exact fun _ _ _ h => h
              case hyr14_1_1 => (intro w hSw; (try dsimp only at hSw); go_simp; try with_reducible rfl)
              try simp only [Act.put, List.getElem_toArray, List.getElem_cons_succ, List.getElem_cons_zero, List.setIfInBounds_toArray, List.set_cons_zero, List.set_cons_succ]
              refine wpAnyH_take (i := 2) (oi := _) (v := undef) rfl (by kernel_rfl) (by kernel_rfl) (by kernel_rfl) (fun _ _ _ h => h) (Or.inr ⟨by kernel_rfl, rfl⟩) (by assumption) ?restr14_1_2
              try simp only [Act.put, List.getElem_toArray, List.getElem_cons_succ, List.getElem_cons_zero, List.setIfInBounds_toArray, List.set_cons_zero, List.set_cons_succ]
              refine wpAnyH_take (i := 3) (oi := _) (v := undef) rfl (by kernel_rfl) (by kernel_rfl) (by kernel_rfl) (fun _ _ _ h => h) (Or.inr ⟨by kernel_rfl, rfl⟩) (by assumption) ?restr14_1_3
              try simp only [Act.put, List.getElem_toArray, List.getElem_cons_succ, List.getElem_cons_zero, List.setIfInBounds_toArray, List.set_cons_zero, List.set_cons_succ]
              refine wpAnyH_take (i := 4) (oi := _) (v := undef) rfl (by kernel_rfl) (by kernel_rfl) (by kernel_rfl) (fun _ _ _ h => h) (Or.inr ⟨by kernel_rfl, rfl⟩) (by assumption) ?restr14_1_4
              try simp only [Act.put, List.getElem_toArray, List.getElem_cons_succ, List.getElem_cons_zero, List.setIfInBounds_toArray, List.set_cons_zero, List.set_cons_succ]
              refine wpAnyH_take (i := 5) (oi := _) (v := undef) rfl (by kernel_rfl) (by kernel_rfl) (by kernel_rfl) (fun _ _ _ h => h) (Or.inr ⟨by kernel_rfl, rfl⟩) (by assumption) ?restr14_1_5
              try simp only [Act.put, List.getElem_toArray, List.getElem_cons_succ, List.getElem_cons_zero, List.setIfInBounds_toArray, List.set_cons_zero, List.set_cons_succ]
              refine wpAnyH_take (i := 6) (oi := _) (v := undef) rfl (by kernel_rfl) (by kernel_rfl) (by kernel_rfl) (fun _ _ _ h => h) (Or.inr ⟨by kernel_rfl, rfl⟩) (by assumption) ?restr14_1_6
              try simp only [Act.put, List.getElem_toArray, List.getElem_cons_succ, List.getElem_cons_zero, List.setIfInBounds_toArray, List.set_cons_zero, List.set_cons_succ]
              refine wpAnyH_take (i := 7) (oi := _) (v := undef) rfl (by kernel_rfl) (by kernel_rfl) (by kernel_rfl) (fun _ _ _ h => h) (Or.inr ⟨by kernel_rfl, rfl⟩) (by assumption) ?restr14_1_7
              try simp only [Act.put, List.getElem_toArray, List.getElem_cons_succ, List.getElem_cons_zero, List.setIfInBounds_toArray, List.set_cons_zero, List.set_cons_succ]
              refine wpAnyH_take (i := 8) (oi := _) (v := undef) rfl (by kernel_rfl) (by kernel_rfl) (by kernel_rfl) (fun _ _ _ h => h) (Or.inr ⟨by kernel_rfl, rfl⟩) (by assumption) ?restr14_1_8
              try simp only [Act.put, List.getElem_toArray, List.getElem_cons_succ, List.getElem_cons_zero, List.setIfInBounds_toArray, List.set_cons_zero, List.set_cons_succ]
              refine wpAnyH_take (i := 9) (oi := _) (v := undef) rfl (by kernel_rfl) (by kernel_rfl) (by kernel_rfl) (fun _ _ _ h => h) (Or.inr ⟨by kernel_rfl, rfl⟩) (by assumption) ?restr14_1_9
              try simp only [Act.put, List.getElem_toArray, List.getElem_cons_succ, List.getElem_cons_zero, List.setIfInBounds_toArray, List.set_cons_zero, List.set_cons_succ]
              refine wpAnyH_take (i := 10) (oi := _) (v := ?vr14_1_10) rfl (by kernel_rfl) (by kernel_rfl) (by kernel_rfl) ?hqr14_1_10 (Or.inl ⟨by kernel_rfl, ?hyr14_1_10⟩) (by assumption) ?restr14_1_10
              case hqr14_1_10 => exact fun _ _ _ h => h
              case hyr14_1_10 => (intro w hSw; (try dsimp only at hSw); go_simp; try with_reducible rfl)
              try simp only [Act.put, List.getElem_toArray, List.getElem_cons_succ, List.getElem_cons_zero, List.setIfInBounds_toArray, List.set_cons_zero, List.set_cons_succ]
              refine wpAnyH_done (by kernel_rfl) ?_ _
              refine NoPanic.normal ?_
              have hfin2 : Bel wo _ := hbo2.then_ (And.left (by assumption))
              go_wp2_with fail
              go_roundw
              case rel => exact ⟨k + 1, by have := H1.out; omega, by have := H2.out; omega, by go_num, by rw [HSU.out, decide_eq_false hr0]; first | rfl | simp, HB.out.then_ hfin2⟩
              case measure => have := H1.out; simp [intOf]; omega
            · rw [ha] at HSU
              clear ha
              go_wp2_with fail
              refine wp_region_noPanic ?_
              refine wp_region_held_drew (S := (fun V : World => Bel (wo.alloc (.cells #[.string cn, .int .i64 3, .int .i64 cz, .bool cnl] 44)) V ∧ (V.cell? ⟨wo.heap.size, 0, none⟩ = some (.string cn) ∧ V.cell? ⟨wo.heap.size, 1, none⟩ = some (.int .i64 3) ∧ V.cell? ⟨wo.heap.size, 2, none⟩ = some (.int .i64 cz) ∧ V.cell? ⟨wo.heap.size, 3, none⟩ = some (.bool cnl)) ∧ V.cell? ⟨bl, ol + k * 4, none⟩ = some (.int .i64 xk) ∧ V.cell? ⟨bl, ol + k * 4 + 1, none⟩ = some (.int .i64 xn) ∧ V.cell? ⟨bl, ol + k * 4 + 2, none⟩ = some (.int .u64 xu) ∧ V.cell? ⟨bl, ol + k * 4 + 3, none⟩ = some (.string xb))) (by kernel_rfl) ?_ (fun hHr15_0 => ?_)
              · (try dsimp only); (first | assumption | exact hS _ (Bel.refl _).drew | exact hS _ (Bel.then_ (And.left (by assumption)) hb7))
              refine wpAnyH_take (i := 0) (oi := _) (v := ?vr15_1_0) rfl (by kernel_rfl) (by kernel_rfl) (by kernel_rfl) ?hqr15_1_0 (Or.inl ⟨by kernel_rfl, ?hyr15_1_0⟩) (by assumption) ?restr15_1_0
              case hqr15_1_0 => exact fun _ _ _ h => h
              case hyr15_1_0 => (intro w hSw; (try dsimp only at hSw); go_simp; try with_reducible rfl)
              try simp only [Act.put, List.getElem_toArray, List.getElem_cons_succ, List.getElem_cons_zero, List.setIfInBounds_toArray, List.set_cons_zero, List.set_cons_succ]
              refine wpAnyH_take (i := 1) (oi := _) (v := ?vr15_1_1) rfl (by kernel_rfl) (by kernel_rfl) (by kernel_rfl) ?hqr15_1_1 (Or.inl ⟨by kernel_rfl, ?hyr15_1_1⟩) (by assumption) ?restr15_1_1
              case hqr15_1_1 => exact fun _ _ _ h => h
              case hyr15_1_1 => (intro w hSw; (try dsimp only at hSw); go_simp; try with_reducible rfl)
              try simp only [Act.put, List.getElem_toArray, List.getElem_cons_succ, List.getElem_cons_zero, List.setIfInBounds_toArray, List.set_cons_zero, List.set_cons_succ]
              refine wpAnyH_take (i := 2) (oi := _) (v := ?vr15_1_2) rfl (by kernel_rfl) (by kernel_rfl) (by kernel_rfl) ?hqr15_1_2 (Or.inl ⟨by kernel_rfl, ?hyr15_1_2⟩) (by assumption) ?restr15_1_2
              case hqr15_1_2 => exact fun _ _ _ h => h
              case hyr15_1_2 => (intro w hSw; (try dsimp only at hSw); go_simp; try with_reducible rfl)
              try simp only [Act.put, List.getElem_toArray, List.getElem_cons_succ, List.getElem_cons_zero, List.setIfInBounds_toArray, List.set_cons_zero, List.set_cons_succ]
              refine wpAnyH_take (i := 3) (oi := _) (v := ?vr15_1_3) rfl (by kernel_rfl) (by kernel_rfl) (by kernel_rfl) ?hqr15_1_3 (Or.inl ⟨by kernel_rfl, ?hyr15_1_3⟩) (by assumption) ?restr15_1_3
              case hqr15_1_3 => exact fun _ _ _ h => h
              case hyr15_1_3 => (intro w hSw; (try dsimp only at hSw); go_simp; try with_reducible rfl)
              try simp only [Act.put, List.getElem_toArray, List.getElem_cons_succ, List.getElem_cons_zero, List.setIfInBounds_toArray, List.set_cons_zero, List.set_cons_succ]
              refine wpAnyH_take (i := 4) (oi := _) (v := ?vr15_1_4) rfl (by kernel_rfl) (by kernel_rfl) (by kernel_rfl) ?hqr15_1_4 (Or.inl ⟨by kernel_rfl, ?hyr15_1_4⟩) (by assumption) ?restr15_1_4
              case hqr15_1_4 => exact fun _ _ _ h => h
              case hyr15_1_4 => (intro w hSw; (try dsimp only at hSw); go_simp; try with_reducible rfl)
              try simp only [Act.put, List.getElem_toArray, List.getElem_cons_succ, List.getElem_cons_zero, List.setIfInBounds_toArray, List.set_cons_zero, List.set_cons_succ]
              refine wpAnyH_ready (rs := [5]) (by kernel_rfl) (by simp) ?_
              refine AllReadyH.cons (o := _) rfl (fun K hK => ?_) AllReadyH.nil
              go_simp
              (go_at_call 23; refine (HF1.out _ (hbw1.then_ (And.left (by assumption)))).mono ?_; rintro e w7 ⟨rfl, hb7⟩)
              try (go_wp2_with fail)
              refine hK.out _ _ ?_ (fun hHr15_1 => ?_)
              · (try dsimp only); (first | assumption | exact hS _ (Bel.refl _).drew | exact hS _ (Bel.then_ (And.left (by assumption)) hb7))
              clear hK K hHr15_0
              try simp only [Act.put, List.getElem_toArray, List.getElem_cons_succ, List.getElem_cons_zero, List.setIfInBounds_toArray, List.set_cons_zero, List.set_cons_succ]
              refine wpAnyH_ready (rs := [6]) (by kernel_rfl) (by simp) ?_
              refine AllReadyH.cons (o := _) rfl (fun K hK => ?_) AllReadyH.nil
              go_simp
              (go_at_call 17; refine (mnum_any _ _).mono ?_; rintro e w' ⟨rfl, rfl⟩)
              try (go_wp2_with fail)
              refine hK.out _ _ ?_ (fun hHr15_2 => ?_)
              · (try dsimp only); (first | assumption | exact hS _ (Bel.refl _).drew | exact hS _ (Bel.then_ (And.left (by assumption)) hb7))
              clear hK K hHr15_1
              try simp only [Act.put, List.getElem_toArray, List.getElem_cons_succ, List.getElem_cons_zero, List.setIfInBounds_toArray, List.set_cons_zero, List.set_cons_succ]
              refine wpAnyH_take (i := 7) (oi := _) (v := ?vr15_1_7) rfl (by kernel_rfl) (by kernel_rfl) (by kernel_rfl) ?hqr15_1_7 (Or.inl ⟨by kernel_rfl, ?hyr15_1_7⟩) (by assumption) ?restr15_1_7
              case hqr15_1_7 => exact fun _ _ _ h => h
              case hyr15_1_7 => (intro w hSw; (try dsimp only at hSw); go_simp; try with_reducible rfl)
              try simp only [Act.put, List.getElem_toArray, List.getElem_cons_succ, List.getElem_cons_zero, List.setIfInBounds_toArray, List.set_cons_zero, List.set_cons_succ]
              refine wpAnyH_take (i := 8) (oi := _) (v := ?vr15_1_8) rfl (by kernel_rfl) (by kernel_rfl) (by kernel_rfl) ?hqr15_1_8 (Or.inl ⟨by kernel_rfl, ?hyr15_1_8⟩) (by assumption) ?restr15_1_8
              case hqr15_1_8 => exact fun _ _ _ h => h
              case hyr15_1_8 => (intro w hSw; (try dsimp only at hSw); go_simp; try with_reducible rfl)
              try simp only [Act.put, List.getElem_toArray, List.getElem_cons_succ, List.getElem_cons_zero, List.setIfInBounds_toArray, List.set_cons_zero, List.set_cons_succ]
              refine wpAnyH_done (by kernel_rfl) ?_ _
              refine NoPanic.normal ?_
              obtain ⟨hfin, ⟨d0, d1, d2, d3⟩, e0, e1, e2, e3⟩ : (fun V : World => Bel (wo.alloc (.cells #[.string cn, .int .i64 3, .int .i64 cz, .bool cnl] 44)) V ∧ (V.cell? ⟨wo.heap.size, 0, none⟩ = some (.string cn) ∧ V.cell? ⟨wo.heap.size, 1, none⟩ = some (.int .i64 3) ∧ V.cell? ⟨wo.heap.size, 2, none⟩ = some (.int .i64 cz) ∧ V.cell? ⟨wo.heap.size, 3, none⟩ = some (.bool cnl)) ∧ V.cell? ⟨bl, ol + k * 4, none⟩ = some (.int .i64 xk) ∧ V.cell? ⟨bl, ol + k * 4 + 1, none⟩ = some (.int .i64 xn) ∧ V.cell? ⟨bl, ol + k * 4 + 2, none⟩ = some (.int .u64 xu) ∧ V.cell? ⟨bl, ol + k * 4 + 3, none⟩ = some (.string xb)) _ := (by assumption)
              have z2 := HFZ.out _ hfin 2 (by omega)
              have z3 := HFZ.out _ hfin 3 (by omega)
              have hlt9 : wo.heap.size < w7.heap.size := by have := hfin.size; simp at this; omega
              have hbo : Bel wo w7 := ((Bel.refl wo).alloc _).then_ hfin
              go_wp2_with fail
              refine wp_name ?_
              intro W2 hW2
              have g0 : W2.cell? ⟨wo.heap.size, 0, none⟩ = some (.string cn) := by rw [hW2]; go_simp
              have g1 : W2.cell? ⟨wo.heap.size, 1, none⟩ = some (.int .i64 3) := by rw [hW2]; go_simp
              skip
              have g2 : W2.cell? ⟨wo.heap.size, 2, none⟩ = some (.int .i64 cz) := by rw [hW2]; go_simp
              have g3 : W2.cell? ⟨wo.heap.size, 3, none⟩ = some (.bool true) := by rw [hW2]; go_simp
              have hbo2 : Bel wo W2 := by rw [hW2]; (repeat (first | exact hbo | refine Bel.alloc ?_ _ | refine Bel.setCell ?_ (by simp) _))
              have hbw2 : Bel w W2 := HBW.out.then_ hbo2
              have hQ2 : ∀ V, Bel W2 V → (fun V : World => Bel W2 V ∧ (V.cell? ⟨wo.heap.size, 0, none⟩ = some (.string cn) ∧ V.cell? ⟨wo.heap.size, 1, none⟩ = some (.int .i64 3) ∧ V.cell? ⟨wo.heap.size, 2, none⟩ = some (.int .i64 cz) ∧ V.cell? ⟨wo.heap.size, 3, none⟩ = some (.bool true)) ∧ V.cell? ⟨bl, ol + k * 4, none⟩ = some (.int .i64 xk) ∧ V.cell? ⟨bl, ol + k * 4 + 1, none⟩ = some (.int .i64 xn) ∧ V.cell? ⟨bl, ol + k * 4 + 2, none⟩ = some (.int .u64 xu) ∧ V.cell? ⟨bl, ol + k * 4 + 3, none⟩ = some (.string xb)) V := fun V h => ⟨h, ⟨h.c g0, h.c g1, h.c g2, h.c g3⟩, HE.out V (hbw2.then_ h)⟩
              clear hW2 hfin d0 d1 d2 d3 e0 e1 e2 e3 z2 z3 hlt9 hbo
              refine wp_region_noPanic ?_
              refine wp_region_held_drew (S := (fun V : World => Bel W2 V ∧ (V.cell? ⟨wo.heap.size, 0, none⟩ = some (.string cn) ∧ V.cell? ⟨wo.heap.size, 1, none⟩ = some (.int .i64 3) ∧ V.cell? ⟨wo.heap.size, 2, none⟩ = some (.int .i64 cz) ∧ V.cell? ⟨wo.heap.size, 3, none⟩ = some (.bool true)) ∧ V.cell? ⟨bl, ol + k * 4, none⟩ = some (.int .i64 xk) ∧ V.cell? ⟨bl, ol + k * 4 + 1, none⟩ = some (.int .i64 xn) ∧ V.cell? ⟨bl, ol + k * 4 + 2, none⟩ = some (.int .u64 xu) ∧ V.cell? ⟨bl, ol + k * 4 + 3, none⟩ = some (.string xb))) (by kernel_rfl) ?_ (fun hHr16_0 => ?_)
              · (try dsimp only); (first | assumption | exact hQ2 _ (Bel.refl _).drew)
              refine wpAnyH_take (i := 0) (oi := _) (v := ?vr16_1_0) rfl (by kernel_rfl) (by kernel_rfl) (by kernel_rfl) ?hqr16_1_0 (Or.inl ⟨by kernel_rfl, ?hyr16_1_0⟩) (by assumption) ?restr16_1_0
              case hqr16_1_0 => exact fun _ _ _ h => h
              case hyr16_1_0 => (intro w hSw; (try dsimp only at hSw); go_simp; try with_reducible rfl)
              try simp only [Act.put, List.getElem_toArray, List.getElem_cons_succ, List.getElem_cons_zero, List.setIfInBounds_toArray, List.set_cons_zero, List.set_cons_succ]
              refine wpAnyH_take (i := 1) (oi := _) (v := ?vr16_1_1) rfl (by kernel_rfl) (by kernel_rfl) (by kernel_rfl) ?hqr16_1_1 (Or.inl ⟨by kernel_rfl, ?hyr16_1_1⟩) (by assumption) ?restr16_1_1
              case hqr16_1_1 => exact fun _ _ _ h => h
              case hyr16_1_1 => (intro w hSw; (try dsimp only at hSw); go_simp; try with_reducible rfl)
              try simp only [Act.put, List.getElem_toArray, List.getElem_cons_succ, List.getElem_cons_zero, List.setIfInBounds_toArray, List.set_cons_zero, List.set_cons_succ]
              refine wpAnyH_take (i := 2) (oi := _) (v := undef) rfl (by kernel_rfl) (by kernel_rfl) (by kernel_rfl) (fun _ _ _ h => h) (Or.inr ⟨by kernel_rfl, rfl⟩) (by assumption) ?restr16_1_2
              try simp only [Act.put, List.getElem_toArray, List.getElem_cons_succ, List.getElem_cons_zero, List.setIfInBounds_toArray, List.set_cons_zero, List.set_cons_succ]
              refine wpAnyH_take (i := 3) (oi := _) (v := undef) rfl (by kernel_rfl) (by kernel_rfl) (by kernel_rfl) (fun _ _ _ h => h) (Or.inr ⟨by kernel_rfl, rfl⟩) (by assumption) ?restr16_1_3
              try simp only [Act.put, List.getElem_toArray, List.getElem_cons_succ, List.getElem_cons_zero, List.setIfInBounds_toArray, List.set_cons_zero, List.set_cons_succ]
              refine wpAnyH_take (i := 4) (oi := _) (v := undef) rfl (by kernel_rfl) (by kernel_rfl) (by kernel_rfl) (fun _ _ _ h => h) (Or.inr ⟨by kernel_rfl, rfl⟩) (by assumption) ?restr16_1_4
              try simp only [Act.put, List.getElem_toArray, List.getElem_cons_succ, List.getElem_cons_zero, List.setIfInBounds_toArray, List.set_cons_zero, List.set_cons_succ]
              refine wpAnyH_take (i := 5) (oi := _) (v := undef) rfl (by kernel_rfl) (by kernel_rfl) (by kernel_rfl) (fun _ _ _ h => h) (Or.inr ⟨by kernel_rfl, rfl⟩) (by assumption) ?restr16_1_5
              try simp only [Act.put, List.getElem_toArray, List.getElem_cons_succ, List.getElem_cons_zero, List.setIfInBounds_toArray, List.set_cons_zero, List.set_cons_succ]
              refine wpAnyH_take (i := 6) (oi := _) (v := undef) rfl (by kernel_rfl) (by kernel_rfl) (by kernel_rfl) (fun _ _ _ h => h) (Or.inr ⟨by kernel_rfl, rfl⟩) (by assumption) ?restr16_1_6
              try simp only [Act.put, List.getElem_toArray, List.getElem_cons_succ, List.getElem_cons_zero, List.setIfInBounds_toArray, List.set_cons_zero, List.set_cons_succ]
              refine wpAnyH_take (i := 7) (oi := _) (v := undef) rfl (by kernel_rfl) (by kernel_rfl) (by kernel_rfl) (fun _ _ _ h => h) (Or.inr ⟨by kernel_rfl, rfl⟩) (by assumption) ?restr16_1_7
              try simp only [Act.put, List.getElem_toArray, List.getElem_cons_succ, List.getElem_cons_zero, List.setIfInBounds_toArray, List.set_cons_zero, List.set_cons_succ]
              refine wpAnyH_take (i := 8) (oi := _) (v := undef) rfl (by kernel_rfl) (by kernel_rfl) (by kernel_rfl) (fun _ _ _ h => h) (Or.inr ⟨by kernel_rfl, rfl⟩) (by assumption) ?restr16_1_8
              try simp only [Act.put, List.getElem_toArray, List.getElem_cons_succ, List.getElem_cons_zero, List.setIfInBounds_toArray, List.set_cons_zero, List.set_cons_succ]
              refine wpAnyH_take (i := 9) (oi := _) (v := undef) rfl (by kernel_rfl) (by kernel_rfl) (by kernel_rfl) (fun _ _ _ h => h) (Or.inr ⟨by kernel_rfl, rfl⟩) (by assumption) ?restr16_1_9
              try simp only [Act.put, List.getElem_toArray, List.getElem_cons_succ, List.getElem_cons_zero, List.setIfInBounds_toArray, List.set_cons_zero, List.set_cons_succ]
              refine wpAnyH_take (i := 10) (oi := _) (v := ?vr16_1_10) rfl (by kernel_rfl) (by kernel_rfl) (by kernel_rfl) ?hqr16_1_10 (Or.inl ⟨by kernel_rfl, ?hyr16_1_10⟩) (by assumption) ?restr16_1_10
              case hqr16_1_10 => exact fun _ _ _ h => h
              case hyr16_1_10 => (intro w hSw; (try dsimp only at hSw); go_simp; try with_reducible rfl)
              try simp only [Act.put, List.getElem_toArray, List.getElem_cons_succ, List.getElem_cons_zero, List.setIfInBounds_toArray, List.set_cons_zero, List.set_cons_succ]
              refine wpAnyH_done (by kernel_rfl) ?_ _
              refine NoPanic.normal ?_
              have hfin2 : Bel wo _ := hbo2.then_ (And.left (by assumption))
              go_wp2_with fail
              go_roundw
              case rel => exact ⟨k + 1, by have := H1.out; omega, by have := H2.out; omega, by go_num, by rw [HSU.out, decide_eq_false hr0]; first | rfl | simp, HB.out.then_ hfin2⟩
              case measure => have := H1.out; simp [intOf]; omega
          · have ht3b : (ct != 3) = true := by simpa using ht3
            by_cases ht4 : ct = 4
            · subst ht4
              clear ht3
              have hw9 := wide_at cz
              have hx0 : 0 ≤ min 8 (max 0 cz) := by omega
              have hx1 : min 8 (max 0 cz) < 9 := by omega
              cases ha : allFit cols l k
              · rw [ha] at HSU
                clear ha
                go_wp2_with fail
                refine wp_region_noPanic ?_
                refine wp_region_held_drew (S := (fun V : World => Bel (wo.alloc (.cells #[.string cn, .int .i64 4, .int .i64 cz, .bool cnl] 44)) V ∧ (V.cell? ⟨wo.heap.size, 0, none⟩ = some (.string cn) ∧ V.cell? ⟨wo.heap.size, 1, none⟩ = some (.int .i64 4) ∧ V.cell? ⟨wo.heap.size, 2, none⟩ = some (.int .i64 cz) ∧ V.cell? ⟨wo.heap.size, 3, none⟩ = some (.bool cnl)) ∧ V.cell? ⟨bl, ol + k * 4, none⟩ = some (.int .i64 xk) ∧ V.cell? ⟨bl, ol + k * 4 + 1, none⟩ = some (.int .i64 xn) ∧ V.cell? ⟨bl, ol + k * 4 + 2, none⟩ = some (.int .u64 xu) ∧ V.cell? ⟨bl, ol + k * 4 + 3, none⟩ = some (.string xb))) (by kernel_rfl) ?_ (fun hHr17_0 => ?_)
                · (try dsimp only); (first | assumption | exact hS _ (Bel.refl _).drew | exact hS _ (Bel.then_ (And.left (by assumption)) hb7))
                refine wpAnyH_take (i := 0) (oi := _) (v := ?vr17_1_0) rfl (by kernel_rfl) (by kernel_rfl) (by kernel_rfl) ?hqr17_1_0 (Or.inl ⟨by kernel_rfl, ?hyr17_1_0⟩) (by assumption) ?restr17_1_0
                case hqr17_1_0 => exact fun _ _ _ h => h
                case hyr17_1_0 => (intro w hSw; (try dsimp only at hSw); go_simp; try with_reducible rfl)
                try simp only [Act.put, List.getElem_toArray, List.getElem_cons_succ, List.getElem_cons_zero, List.setIfInBounds_toArray, List.set_cons_zero, List.set_cons_succ]
                refine wpAnyH_take (i := 1) (oi := _) (v := ?vr17_1_1) rfl (by kernel_rfl) (by kernel_rfl) (by kernel_rfl) ?hqr17_1_1 (Or.inl ⟨by kernel_rfl, ?hyr17_1_1⟩) (by assumption) ?restr17_1_1
                case hqr17_1_1 => exact fun _ _ _ h => h
                case hyr17_1_1 => (intro w hSw; (try dsimp only at hSw); go_simp; try with_reducible rfl)
                try simp only [Act.put, List.getElem_toArray, List.getElem_cons_succ, List.getElem_cons_zero, List.setIfInBounds_toArray, List.set_cons_zero, List.set_cons_succ]
                refine wpAnyH_take (i := 2) (oi := _) (v := ?vr17_1_2) rfl (by kernel_rfl) (by kernel_rfl) (by kernel_rfl) ?hqr17_1_2 (Or.inl ⟨by kernel_rfl, ?hyr17_1_2⟩) (by assumption) ?restr17_1_2
                case hqr17_1_2 => exact fun _ _ _ h => h
                case hyr17_1_2 => (intro w hSw; (try dsimp only at hSw); go_simp; try with_reducible rfl)
                try simp only [Act.put, List.getElem_toArray, List.getElem_cons_succ, List.getElem_cons_zero, List.setIfInBounds_toArray, List.set_cons_zero, List.set_cons_succ]
                refine wpAnyH_take (i := 3) (oi := _) (v := ?vr17_1_3) rfl (by kernel_rfl) (by kernel_rfl) (by kernel_rfl) ?hqr17_1_3 (Or.inl ⟨by kernel_rfl, ?hyr17_1_3⟩) (by assumption) ?restr17_1_3
                case hqr17_1_3 => exact fun _ _ _ h => h
                case hyr17_1_3 => (intro w hSw; (try dsimp only at hSw); go_simp; try with_reducible rfl)
                try simp only [Act.put, List.getElem_toArray, List.getElem_cons_succ, List.getElem_cons_zero, List.setIfInBounds_toArray, List.set_cons_zero, List.set_cons_succ]
                refine wpAnyH_take (i := 4) (oi := _) (v := ?vr17_1_4) rfl (by kernel_rfl) (by kernel_rfl) (by kernel_rfl) ?hqr17_1_4 (Or.inl ⟨by kernel_rfl, ?hyr17_1_4⟩) (by assumption) ?restr17_1_4
                case hqr17_1_4 => exact fun _ _ _ h => h
                case hyr17_1_4 => (intro w hSw; (try dsimp only at hSw); go_simp; try with_reducible rfl)
                try simp only [Act.put, List.getElem_toArray, List.getElem_cons_succ, List.getElem_cons_zero, List.setIfInBounds_toArray, List.set_cons_zero, List.set_cons_succ]
                refine wpAnyH_ready (rs := [5]) (by kernel_rfl) (by simp) ?_
                refine AllReadyH.cons (o := _) rfl (fun K hK => ?_) AllReadyH.nil
                go_simp
                (go_at_call 23; refine (HF1.out _ (hbw1.then_ (And.left (by assumption)))).mono ?_; rintro e w7 ⟨rfl, hb7⟩)
                try (go_wp2_with fail)
                refine hK.out _ _ ?_ (fun hHr17_1 => ?_)
                · (try dsimp only); (first | assumption | exact hS _ (Bel.refl _).drew | exact hS _ (Bel.then_ (And.left (by assumption)) hb7))
                clear hK K hHr17_0
                try simp only [Act.put, List.getElem_toArray, List.getElem_cons_succ, List.getElem_cons_zero, List.setIfInBounds_toArray, List.set_cons_zero, List.set_cons_succ]
                refine wpAnyH_ready (rs := [6]) (by kernel_rfl) (by simp) ?_
                refine AllReadyH.cons (o := _) rfl (fun K hK => ?_) AllReadyH.nil
                go_simp
                (go_at_call 17; refine (mnum_any _ _).mono ?_; rintro e w' ⟨rfl, rfl⟩)
                try (go_wp2_with fail)
                refine hK.out _ _ ?_ (fun hHr17_2 => ?_)
                · (try dsimp only); (first | assumption | exact hS _ (Bel.refl _).drew | exact hS _ (Bel.then_ (And.left (by assumption)) hb7))
                clear hK K hHr17_1
                try simp only [Act.put, List.getElem_toArray, List.getElem_cons_succ, List.getElem_cons_zero, List.setIfInBounds_toArray, List.set_cons_zero, List.set_cons_succ]
                refine wpAnyH_take (i := 7) (oi := _) (v := ?vr17_1_7) rfl (by kernel_rfl) (by kernel_rfl) (by kernel_rfl) ?hqr17_1_7 (Or.inl ⟨by kernel_rfl, ?hyr17_1_7⟩) (by assumption) ?restr17_1_7
                case hqr17_1_7 => exact fun _ _ _ h => h
                case hyr17_1_7 => (intro w hSw; (try dsimp only at hSw); go_simp; try with_reducible rfl)
                try simp only [Act.put, List.getElem_toArray, List.getElem_cons_succ, List.getElem_cons_zero, List.setIfInBounds_toArray, List.set_cons_zero, List.set_cons_succ]
                refine wpAnyH_take (i := 8) (oi := _) (v := ?vr17_1_8) rfl (by kernel_rfl) (by kernel_rfl) (by kernel_rfl) ?hqr17_1_8 (Or.inl ⟨by kernel_rfl, ?hyr17_1_8⟩) (by assumption) ?restr17_1_8
                case hqr17_1_8 => exact fun _ _ _ h => h
                case hyr17_1_8 => (intro w hSw; (try dsimp only at hSw); go_simp; try with_reducible rfl)
                try simp only [Act.put, List.getElem_toArray, List.getElem_cons_succ, List.getElem_cons_zero, List.setIfInBounds_toArray, List.set_cons_zero, List.set_cons_succ]
                refine wpAnyH_done (by kernel_rfl) ?_ _
                refine NoPanic.normal ?_
                obtain ⟨hfin, ⟨d0, d1, d2, d3⟩, e0, e1, e2, e3⟩ : (fun V : World => Bel (wo.alloc (.cells #[.string cn, .int .i64 4, .int .i64 cz, .bool cnl] 44)) V ∧ (V.cell? ⟨wo.heap.size, 0, none⟩ = some (.string cn) ∧ V.cell? ⟨wo.heap.size, 1, none⟩ = some (.int .i64 4) ∧ V.cell? ⟨wo.heap.size, 2, none⟩ = some (.int .i64 cz) ∧ V.cell? ⟨wo.heap.size, 3, none⟩ = some (.bool cnl)) ∧ V.cell? ⟨bl, ol + k * 4, none⟩ = some (.int .i64 xk) ∧ V.cell? ⟨bl, ol + k * 4 + 1, none⟩ = some (.int .i64 xn) ∧ V.cell? ⟨bl, ol + k * 4 + 2, none⟩ = some (.int .u64 xu) ∧ V.cell? ⟨bl, ol + k * 4 + 3, none⟩ = some (.string xb)) _ := (by assumption)
                have z2 := HFZ.out _ hfin 2 (by omega)
                have z3 := HFZ.out _ hfin 3 (by omega)
                have hlt9 : wo.heap.size < w7.heap.size := by have := hfin.size; simp at this; omega
                have hbo : Bel wo w7 := ((Bel.refl wo).alloc _).then_ hfin
                go_wp2_with fail
                refine wp_name ?_
                intro W2 hW2
                have g0 : W2.cell? ⟨wo.heap.size, 0, none⟩ = some (.string cn) := by rw [hW2]; go_simp
                have g1 : W2.cell? ⟨wo.heap.size, 1, none⟩ = some (.int .i64 4) := by rw [hW2]; go_simp
                have y2 : ((w7.setCell ⟨wo.heap.size, 3, none⟩ (.bool true)).setCell ⟨wo.heap.size, 2, none⟩ (.int .i64 (wideI cz))).cell? ⟨wo.heap.size, 2, none⟩ = some (.int .i64 (wideI cz)) := by go_simp
                have g2 : W2.cell? ⟨wo.heap.size, 2, none⟩ = some (.int .i64 200) := by rw [hW2]; go_simp
                have g3 : W2.cell? ⟨wo.heap.size, 3, none⟩ = some (.bool true) := by rw [hW2]; go_simp
                have hbo2 : Bel wo W2 := by rw [hW2]; (repeat (first | exact hbo | refine Bel.alloc ?_ _ | refine Bel.setCell ?_ (by simp) _))
                have hbw2 : Bel w W2 := HBW.out.then_ hbo2
                have hQ2 : ∀ V, Bel W2 V → (fun V : World => Bel W2 V ∧ (V.cell? ⟨wo.heap.size, 0, none⟩ = some (.string cn) ∧ V.cell? ⟨wo.heap.size, 1, none⟩ = some (.int .i64 4) ∧ V.cell? ⟨wo.heap.size, 2, none⟩ = some (.int .i64 200) ∧ V.cell? ⟨wo.heap.size, 3, none⟩ = some (.bool true)) ∧ V.cell? ⟨bl, ol + k * 4, none⟩ = some (.int .i64 xk) ∧ V.cell? ⟨bl, ol + k * 4 + 1, none⟩ = some (.int .i64 xn) ∧ V.cell? ⟨bl, ol + k * 4 + 2, none⟩ = some (.int .u64 xu) ∧ V.cell? ⟨bl, ol + k * 4 + 3, none⟩ = some (.string xb)) V := fun V h => ⟨h, ⟨h.c g0, h.c g1, h.c g2, h.c g3⟩, HE.out V (hbw2.then_ h)⟩
                clear hW2 hfin d0 d1 d2 d3 e0 e1 e2 e3 z2 z3 hlt9 hbo
                refine wp_region_noPanic ?_
                refine wp_region_held_drew (S := (fun V : World => Bel W2 V ∧ (V.cell? ⟨wo.heap.size, 0, none⟩ = some (.string cn) ∧ V.cell? ⟨wo.heap.size, 1, none⟩ = some (.int .i64 4) ∧ V.cell? ⟨wo.heap.size, 2, none⟩ = some (.int .i64 200) ∧ V.cell? ⟨wo.heap.size, 3, none⟩ = some (.bool true)) ∧ V.cell? ⟨bl, ol + k * 4, none⟩ = some (.int .i64 xk) ∧ V.cell? ⟨bl, ol + k * 4 + 1, none⟩ = some (.int .i64 xn) ∧ V.cell? ⟨bl, ol + k * 4 + 2, none⟩ = some (.int .u64 xu) ∧ V.cell? ⟨bl, ol + k * 4 + 3, none⟩ = some (.string xb))) (by kernel_rfl) ?_ (fun hHr18_0 => ?_)
                · (try dsimp only); (first | assumption | exact hQ2 _ (Bel.refl _).drew)
                refine wpAnyH_take (i := 0) (oi := _) (v := ?vr18_1_0) rfl (by kernel_rfl) (by kernel_rfl) (by kernel_rfl) ?hqr18_1_0 (Or.inl ⟨by kernel_rfl, ?hyr18_1_0⟩) (by assumption) ?restr18_1_0
                case hqr18_1_0 => exact fun _ _ _ h => h
                case hyr18_1_0 => (intro w hSw; (try dsimp only at hSw); go_simp; try with_reducible rfl)
                try simp only [Act.put, List.getElem_toArray, List.getElem_cons_succ, List.getElem_cons_zero, List.setIfInBounds_toArray, List.set_cons_zero, List.set_cons_succ]
                refine wpAnyH_take (i := 1) (oi := _) (v := ?vr18_1_1) rfl (by kernel_rfl) (by kernel_rfl) (by kernel_rfl) ?hqr18_1_1 (Or.inl ⟨by kernel_rfl, ?hyr18_1_1⟩) (by assumption) ?restr18_1_1
                case hqr18_1_1 => exact fun _ _ _ h => h
                case hyr18_1_1 => (intro w hSw; (try dsimp only at hSw); go_simp; try with_reducible rfl)
                try simp only [Act.put, List.getElem_toArray, List.getElem_cons_succ, List.getElem_cons_zero, List.setIfInBounds_toArray, List.set_cons_zero, List.set_cons_succ]
                refine wpAnyH_take (i := 2) (oi := _) (v := undef) rfl (by kernel_rfl) (by kernel_rfl) (by kernel_rfl) (fun _ _ _ h => h) (Or.inr ⟨by kernel_rfl, rfl⟩) (by assumption) ?restr18_1_2
                try simp only [Act.put, List.getElem_toArray, List.getElem_cons_succ, List.getElem_cons_zero, List.setIfInBounds_toArray, List.set_cons_zero, List.set_cons_succ]
                refine wpAnyH_take (i := 3) (oi := _) (v := undef) rfl (by kernel_rfl) (by kernel_rfl) (by kernel_rfl) (fun _ _ _ h => h) (Or.inr ⟨by kernel_rfl, rfl⟩) (by assumption) ?restr18_1_3
                try simp only [Act.put, List.getElem_toArray, List.getElem_cons_succ, List.getElem_cons_zero, List.setIfInBounds_toArray, List.set_cons_zero, List.set_cons_succ]
                refine wpAnyH_take (i := 4) (oi := _) (v := undef) rfl (by kernel_rfl) (by kernel_rfl) (by kernel_rfl) (fun _ _ _ h => h) (Or.inr ⟨by kernel_rfl, rfl⟩) (by assumption) ?restr18_1_4
                try simp only [Act.put, List.getElem_toArray, List.getElem_cons_succ, List.getElem_cons_zero, List.setIfInBounds_toArray, List.set_cons_zero, List.set_cons_succ]
                refine wpAnyH_take (i := 5) (oi := _) (v := undef) rfl (by kernel_rfl) (by kernel_rfl) (by kernel_rfl) (fun _ _ _ h => h) (Or.inr ⟨by kernel_rfl, rfl⟩) (by assumption) ?restr18_1_5
                try simp only [Act.put, List.getElem_toArray, List.getElem_cons_succ, List.getElem_cons_zero, List.setIfInBounds_toArray, List.set_cons_zero, List.set_cons_succ]
                refine wpAnyH_take (i := 6) (oi := _) (v := undef) rfl (by kernel_rfl) (by kernel_rfl) (by kernel_rfl) (fun _ _ _ h => h) (Or.inr ⟨by kernel_rfl, rfl⟩) (by assumption) ?restr18_1_6
                try simp only [Act.put, List.getElem_toArray, List.getElem_cons_succ, List.getElem_cons_zero, List.setIfInBounds_toArray, List.set_cons_zero, List.set_cons_succ]
                refine wpAnyH_take (i := 7) (oi := _) (v := undef) rfl (by kernel_rfl) (by kernel_rfl) (by kernel_rfl) (fun _ _ _ h => h) (Or.inr ⟨by kernel_rfl, rfl⟩) (by assumption) ?restr18_1_7
                try simp only [Act.put, List.getElem_toArray, List.getElem_cons_succ, List.getElem_cons_zero, List.setIfInBounds_toArray, List.set_cons_zero, List.set_cons_succ]
                refine wpAnyH_take (i := 8) (oi := _) (v := undef) rfl (by kernel_rfl) (by kernel_rfl) (by kernel_rfl) (fun _ _ _ h => h) (Or.inr ⟨by kernel_rfl, rfl⟩) (by assumption) ?restr18_1_8
                try simp only [Act.put, List.getElem_toArray, List.getElem_cons_succ, List.getElem_cons_zero, List.setIfInBounds_toArray, List.set_cons_zero, List.set_cons_succ]
                refine wpAnyH_take (i := 9) (oi := _) (v := undef) rfl (by kernel_rfl) (by kernel_rfl) (by kernel_rfl) (fun _ _ _ h => h) (Or.inr ⟨by kernel_rfl, rfl⟩) (by assumption) ?restr18_1_9
                try simp only [Act.put, List.getElem_toArray, List.getElem_cons_succ, List.getElem_cons_zero, List.setIfInBounds_toArray, List.set_cons_zero, List.set_cons_succ]
                refine wpAnyH_take (i := 10) (oi := _) (v := ?vr18_1_10) rfl (by kernel_rfl) (by kernel_rfl) (by kernel_rfl) ?hqr18_1_10 (Or.inl ⟨by kernel_rfl, ?hyr18_1_10⟩) (by assumption) ?restr18_1_10
                case hqr18_1_10 => exact fun _ _ _ h => h
                case hyr18_1_10 => (intro w hSw; (try dsimp only at hSw); go_simp; try with_reducible rfl)
                try simp only [Act.put, List.getElem_toArray, List.getElem_cons_succ, List.getElem_cons_zero, List.setIfInBounds_toArray, List.set_cons_zero, List.set_cons_succ]
                refine wpAnyH_done (by kernel_rfl) ?_ _
                refine NoPanic.normal ?_
                have hfin2 : Bel wo _ := hbo2.then_ (And.left (by assumption))
                go_wp2_with fail
                go_roundw
                case rel => exact ⟨k + 1, by have := H1.out; omega, by have := H2.out; omega, by go_num, by rw [HSU.out, decide_eq_false hr0]; first | rfl | simp, HB.out.then_ hfin2⟩
                case measure => have := H1.out; simp [intOf]; omega
              · rw [ha] at HSU
                clear ha
                go_wp2_with fail
                refine wp_region_noPanic ?_
                refine wp_region_held_drew (S := (fun V : World => Bel (wo.alloc (.cells #[.string cn, .int .i64 4, .int .i64 cz, .bool cnl] 44)) V ∧ (V.cell? ⟨wo.heap.size, 0, none⟩ = some (.string cn) ∧ V.cell? ⟨wo.heap.size, 1, none⟩ = some (.int .i64 4) ∧ V.cell? ⟨wo.heap.size, 2, none⟩ = some (.int .i64 cz) ∧ V.cell? ⟨wo.heap.size, 3, none⟩ = some (.bool cnl)) ∧ V.cell? ⟨bl, ol + k * 4, none⟩ = some (.int .i64 xk) ∧ V.cell? ⟨bl, ol + k * 4 + 1, none⟩ = some (.int .i64 xn) ∧ V.cell? ⟨bl, ol + k * 4 + 2, none⟩ = some (.int .u64 xu) ∧ V.cell? ⟨bl, ol + k * 4 + 3, none⟩ = some (.string xb))) (by kernel_rfl) ?_ (fun hHr19_0 => ?_)
                · (try dsimp only); (first | assumption | exact hS _ (Bel.refl _).drew | exact hS _ (Bel.then_ (And.left (by assumption)) hb7))
                refine wpAnyH_take (i := 0) (oi := _) (v := ?vr19_1_0) rfl (by kernel_rfl) (by kernel_rfl) (by kernel_rfl) ?hqr19_1_0 (Or.inl ⟨by kernel_rfl, ?hyr19_1_0⟩) (by assumption) ?restr19_1_0
                case hqr19_1_0 => exact fun _ _ _ h => h
                case hyr19_1_0 => (intro w hSw; (try dsimp only at hSw); go_simp; try with_reducible rfl)
                try simp only [Act.put, List.getElem_toArray, List.getElem_cons_succ, List.getElem_cons_zero, List.setIfInBounds_toArray, List.set_cons_zero, List.set_cons_succ]
                refine wpAnyH_take (i := 1) (oi := _) (v := ?vr19_1_1) rfl (by kernel_rfl) (by kernel_rfl) (by kernel_rfl) ?hqr19_1_1 (Or.inl ⟨by kernel_rfl, ?hyr19_1_1⟩) (by assumption) ?restr19_1_1
                case hqr19_1_1 => exact fun _ _ _ h => h
                case hyr19_1_1 => (intro w hSw; (try dsimp only at hSw); go_simp; try with_reducible rfl)
                try simp only [Act.put, List.getElem_toArray, List.getElem_cons_succ, List.getElem_cons_zero, List.setIfInBounds_toArray, List.set_cons_zero, List.set_cons_succ]
                refine wpAnyH_take (i := 2) (oi := _) (v := ?vr19_1_2) rfl (by kernel_rfl) (by kernel_rfl) (by kernel_rfl) ?hqr19_1_2 (Or.inl ⟨by kernel_rfl, ?hyr19_1_2⟩) (by assumption) ?restr19_1_2
                case hqr19_1_2 => exact fun _ _ _ h => h
                case hyr19_1_2 => (intro w hSw; (try dsimp only at hSw); go_simp; try with_reducible rfl)
                try simp only [Act.put, List.getElem_toArray, List.getElem_cons_succ, List.getElem_cons_zero, List.setIfInBounds_toArray, List.set_cons_zero, List.set_cons_succ]
                refine wpAnyH_take (i := 3) (oi := _) (v := ?vr19_1_3) rfl (by kernel_rfl) (by kernel_rfl) (by kernel_rfl) ?hqr19_1_3 (Or.inl ⟨by kernel_rfl, ?hyr19_1_3⟩) (by assumption) ?restr19_1_3
                case hqr19_1_3 => exact fun _ _ _ h => h
                case hyr19_1_3 => (intro w hSw; (try dsimp only at hSw); go_simp; try with_reducible rfl)
                try simp only [Act.put, List.getElem_toArray, List.getElem_cons_succ, List.getElem_cons_zero, List.setIfInBounds_toArray, List.set_cons_zero, List.set_cons_succ]
                refine wpAnyH_take (i := 4) (oi := _) (v := ?vr19_1_4) rfl (by kernel_rfl) (by kernel_rfl) (by kernel_rfl) ?hqr19_1_4 (Or.inl ⟨by kernel_rfl, ?hyr19_1_4⟩) (by assumption) ?restr19_1_4
                case hqr19_1_4 => exact fun _ _ _ h => h
                case hyr19_1_4 => (intro w hSw; (try dsimp only at hSw); go_simp; try with_reducible rfl)
                try simp only [Act.put, List.getElem_toArray, List.getElem_cons_succ, List.getElem_cons_zero, List.setIfInBounds_toArray, List.set_cons_zero, List.set_cons_succ]
                refine wpAnyH_ready (rs := [5]) (by kernel_rfl) (by simp) ?_
                refine AllReadyH.cons (o := _) rfl (fun K hK => ?_) AllReadyH.nil
                go_simp
                (go_at_call 23; refine (HF1.out _ (hbw1.then_ (And.left (by assumption)))).mono ?_; rintro e w7 ⟨rfl, hb7⟩)
                try (go_wp2_with fail)
                refine hK.out _ _ ?_ (fun hHr19_1 => ?_)
                · (try dsimp only); (first | assumption | exact hS _ (Bel.refl _).drew | exact hS _ (Bel.then_ (And.left (by assumption)) hb7))
                clear hK K hHr19_0
                try simp only [Act.put, List.getElem_toArray, List.getElem_cons_succ, List.getElem_cons_zero, List.setIfInBounds_toArray, List.set_cons_zero, List.set_cons_succ]
                refine wpAnyH_ready (rs := [6]) (by kernel_rfl) (by simp) ?_
                refine AllReadyH.cons (o := _) rfl (fun K hK => ?_) AllReadyH.nil
                go_simp
                (go_at_call 17; refine (mnum_any _ _).mono ?_; rintro e w' ⟨rfl, rfl⟩)
                try (go_wp2_with fail)
                refine hK.out _ _ ?_ (fun hHr19_2 => ?_)
                · (try dsimp only); (first | assumption | exact hS _ (Bel.refl _).drew | exact hS _ (Bel.then_ (And.left (by assumption)) hb7))
                clear hK K hHr19_1
                try simp only [Act.put, List.getElem_toArray, List.getElem_cons_succ, List.getElem_cons_zero, List.setIfInBounds_toArray, List.set_cons_zero, List.set_cons_succ]
                refine wpAnyH_take (i := 7) (oi := _) (v := ?vr19_1_7) rfl (by kernel_rfl) (by kernel_rfl) (by kernel_rfl) ?hqr19_1_7 (Or.inl ⟨by kernel_rfl, ?hyr19_1_7⟩) (by assumption) ?restr19_1_7
                case hqr19_1_7 => exact fun _ _ _ h => h
                case hyr19_1_7 => (intro w hSw; (try dsimp only at hSw); go_simp; try with_reducible rfl)
                try simp only [Act.put, List.getElem_toArray, List.getElem_cons_succ, List.getElem_cons_zero, List.setIfInBounds_toArray, List.set_cons_zero, List.set_cons_succ]
                refine wpAnyH_take (i := 8) (oi := _) (v := ?vr19_1_8) rfl (by kernel_rfl) (by kernel_rfl) (by kernel_rfl) ?hqr19_1_8 (Or.inl ⟨by kernel_rfl, ?hyr19_1_8⟩) (by assumption) ?restr19_1_8
                case hqr19_1_8 => exact fun _ _ _ h => h
                case hyr19_1_8 => (intro w hSw; (try dsimp only at hSw); go_simp; try with_reducible rfl)
                try simp only [Act.put, List.getElem_toArray, List.getElem_cons_succ, List.getElem_cons_zero, List.setIfInBounds_toArray, List.set_cons_zero, List.set_cons_succ]
                refine wpAnyH_done (by kernel_rfl) ?_ _
                refine NoPanic.normal ?_
                obtain ⟨hfin, ⟨d0, d1, d2, d3⟩, e0, e1, e2, e3⟩ : (fun V : World => Bel (wo.alloc (.cells #[.string cn, .int .i64 4, .int .i64 cz, .bool cnl] 44)) V ∧ (V.cell? ⟨wo.heap.size, 0, none⟩ = some (.string cn) ∧ V.cell? ⟨wo.heap.size, 1, none⟩ = some (.int .i64 4) ∧ V.cell? ⟨wo.heap.size, 2, none⟩ = some (.int .i64 cz) ∧ V.cell? ⟨wo.heap.size, 3, none⟩ = some (.bool cnl)) ∧ V.cell? ⟨bl, ol + k * 4, none⟩ = some (.int .i64 xk) ∧ V.cell? ⟨bl, ol + k * 4 + 1, none⟩ = some (.int .i64 xn) ∧ V.cell? ⟨bl, ol + k * 4 + 2, none⟩ = some (.int .u64 xu) ∧ V.cell? ⟨bl, ol + k * 4 + 3, none⟩ = some (.string xb)) _ := (by assumption)
                have z2 := HFZ.out _ hfin 2 (by omega)
                have z3 := HFZ.out _ hfin 3 (by omega)
                have hlt9 : wo.heap.size < w7.heap.size := by have := hfin.size; simp at this; omega
                have hbo : Bel wo w7 := ((Bel.refl wo).alloc _).then_ hfin
                go_wp2_with fail
                refine wp_name ?_
                intro W2 hW2
                have g0 : W2.cell? ⟨wo.heap.size, 0, none⟩ = some (.string cn) := by rw [hW2]; go_simp
                have g1 : W2.cell? ⟨wo.heap.size, 1, none⟩ = some (.int .i64 4) := by rw [hW2]; go_simp
                have y2 : ((w7.setCell ⟨wo.heap.size, 3, none⟩ (.bool true)).setCell ⟨wo.heap.size, 2, none⟩ (.int .i64 (wideI cz))).cell? ⟨wo.heap.size, 2, none⟩ = some (.int .i64 (wideI cz)) := by go_simp
                have g2 : W2.cell? ⟨wo.heap.size, 2, none⟩ = some (.int .i64 200) := by rw [hW2]; go_simp
                have g3 : W2.cell? ⟨wo.heap.size, 3, none⟩ = some (.bool true) := by rw [hW2]; go_simp
                have hbo2 : Bel wo W2 := by rw [hW2]; (repeat (first | exact hbo | refine Bel.alloc ?_ _ | refine Bel.setCell ?_ (by simp) _))
                have hbw2 : Bel w W2 := HBW.out.then_ hbo2
                have hQ2 : ∀ V, Bel W2 V → (fun V : World => Bel W2 V ∧ (V.cell? ⟨wo.heap.size, 0, none⟩ = some (.string cn) ∧ V.cell? ⟨wo.heap.size, 1, none⟩ = some (.int .i64 4) ∧ V.cell? ⟨wo.heap.size, 2, none⟩ = some (.int .i64 200) ∧ V.cell? ⟨wo.heap.size, 3, none⟩ = some (.bool true)) ∧ V.cell? ⟨bl, ol + k * 4, none⟩ = some (.int .i64 xk) ∧ V.cell? ⟨bl, ol + k * 4 + 1, none⟩ = some (.int .i64 xn) ∧ V.cell? ⟨bl, ol + k * 4 + 2, none⟩ = some (.int .u64 xu) ∧ V.cell? ⟨bl, ol + k * 4 + 3, none⟩ = some (.string xb)) V := fun V h => ⟨h, ⟨h.c g0, h.c g1, h.c g2, h.c g3⟩, HE.out V (hbw2.then_ h)⟩
                clear hW2 hfin d0 d1 d2 d3 e0 e1 e2 e3 z2 z3 hlt9 hbo
                refine wp_region_noPanic ?_
                refine wp_region_held_drew (S := (fun V : World => Bel W2 V ∧ (V.cell? ⟨wo.heap.size, 0, none⟩ = some (.string cn) ∧ V.cell? ⟨wo.heap.size, 1, none⟩ = some (.int .i64 4) ∧ V.cell? ⟨wo.heap.size, 2, none⟩ = some (.int .i64 200) ∧ V.cell? ⟨wo.heap.size, 3, none⟩ = some (.bool true)) ∧ V.cell? ⟨bl, ol + k * 4, none⟩ = some (.int .i64 xk) ∧ V.cell? ⟨bl, ol + k * 4 + 1, none⟩ = some (.int .i64 xn) ∧ V.cell? ⟨bl, ol + k * 4 + 2, none⟩ = some (.int .u64 xu) ∧ V.cell? ⟨bl, ol + k * 4 + 3, none⟩ = some (.string xb))) (by kernel_rfl) ?_ (fun hHr20_0 => ?_)
                · (try dsimp only); (first | assumption | exact hQ2 _ (Bel.refl _).drew)
                refine wpAnyH_take (i := 0) (oi := _) (v := ?vr20_1_0) rfl (by kernel_rfl) (by kernel_rfl) (by kernel_rfl) ?hqr20_1_0 (Or.inl ⟨by kernel_rfl, ?hyr20_1_0⟩) (by assumption) ?restr20_1_0
                case hqr20_1_0 => exact fun _ _ _ h => h
                case hyr20_1_0 => (intro w hSw; (try dsimp only at hSw); go_simp; try with_reducible rfl)
                try simp only [Act.put, List.getElem_toArray, List.getElem_cons_succ, List.getElem_cons_zero, List.setIfInBounds_toArray, List.set_cons_zero, List.set_cons_succ]
                refine wpAnyH_take (i := 1) (oi := _) (v := ?vr20_1_1) rfl (by kernel_rfl) (by kernel_rfl) (by kernel_rfl) ?hqr20_1_1 (Or.inl ⟨by kernel_rfl, ?hyr20_1_1⟩) (by assumption) ?restr20_1_1
                case hqr20_1_1 => exact fun _ _ _ h => h
                case hyr20_1_1 => (intro w hSw; (try dsimp only at hSw); go_simp; try with_reducible rfl)
                try simp only [Act.put, List.getElem_toArray, List.getElem_cons_succ, List.getElem_cons_zero, List.setIfInBounds_toArray, List.set_cons_zero, List.set_cons_succ]
                refine wpAnyH_take (i := 2) (oi := _) (v := undef) rfl (by kernel_rfl) (by kernel_rfl) (by kernel_rfl) (fun _ _ _ h => h) (Or.inr ⟨by kernel_rfl, rfl⟩) (by assumption) ?restr20_1_2
                try simp only [Act.put, List.getElem_toArray, List.getElem_cons_succ, List.getElem_cons_zero, List.setIfInBounds_toArray, List.set_cons_zero, List.set_cons_succ]
                refine wpAnyH_take (i := 3) (oi := _) (v := undef) rfl (by kernel_rfl) (by kernel_rfl) (by kernel_rfl) (fun _ _ _ h => h) (Or.inr ⟨by kernel_rfl, rfl⟩) (by assumption) ?restr20_1_3
                try simp only [Act.put, List.getElem_toArray, List.getElem_cons_succ, List.getElem_cons_zero, List.setIfInBounds_toArray, List.set_cons_zero, List.set_cons_succ]
                refine wpAnyH_take (i := 4) (oi := _) (v := undef) rfl (by kernel_rfl) (by kernel_rfl) (by kernel_rfl) (fun _ _ _ h => h) (Or.inr ⟨by kernel_rfl, rfl⟩) (by assumption) ?restr20_1_4
                try simp only [Act.put, List.getElem_toArray, List.getElem_cons_succ, List.getElem_cons_zero, List.setIfInBounds_toArray, List.set_cons_zero, List.set_cons_succ]
                refine wpAnyH_take (i := 5) (oi := _) (v := undef) rfl (by kernel_rfl) (by kernel_rfl) (by kernel_rfl) (fun _ _ _ h => h) (Or.inr ⟨by kernel_rfl, rfl⟩) (by assumption) ?restr20_1_5
                try simp only [Act.put, List.getElem_toArray, List.getElem_cons_succ, List.getElem_cons_zero, List.setIfInBounds_toArray, List.set_cons_zero, List.set_cons_succ]
                refine wpAnyH_take (i := 6) (oi := _) (v := undef) rfl (by kernel_rfl) (by kernel_rfl) (by kernel_rfl) (fun _ _ _ h => h) (Or.inr ⟨by kernel_rfl, rfl⟩) (by assumption) ?restr20_1_6
                try simp only [Act.put, List.getElem_toArray, List.getElem_cons_succ, List.getElem_cons_zero, List.setIfInBounds_toArray, List.set_cons_zero, List.set_cons_succ]
                refine wpAnyH_take (i := 7) (oi := _) (v := undef) rfl (by kernel_rfl) (by kernel_rfl) (by kernel_rfl) (fun _ _ _ h => h) (Or.inr ⟨by kernel_rfl, rfl⟩) (by assumption) ?restr20_1_7
                try simp only [Act.put, List.getElem_toArray, List.getElem_cons_succ, List.getElem_cons_zero, List.setIfInBounds_toArray, List.set_cons_zero, List.set_cons_succ]
                refine wpAnyH_take (i := 8) (oi := _) (v := undef) rfl (by kernel_rfl) (by kernel_rfl) (by kernel_rfl) (fun _ _ _ h => h) (Or.inr ⟨by kernel_rfl, rfl⟩) (by assumption) ?restr20_1_8
                try simp only [Act.put, List.getElem_toArray, List.getElem_cons_succ, List.getElem_cons_zero, List.setIfInBounds_toArray, List.set_cons_zero, List.set_cons_succ]
                refine wpAnyH_take (i := 9) (oi := _) (v := undef) rfl (by kernel_rfl) (by kernel_rfl) (by kernel_rfl) (fun _ _ _ h => h) (Or.inr ⟨by kernel_rfl, rfl⟩) (by assumption) ?restr20_1_9
                try simp only [Act.put, List.getElem_toArray, List.getElem_cons_succ, List.getElem_cons_zero, List.setIfInBounds_toArray, List.set_cons_zero, List.set_cons_succ]
                refine wpAnyH_take (i := 10) (oi := _) (v := ?vr20_1_10) rfl (by kernel_rfl) (by kernel_rfl) (by kernel_rfl) ?hqr20_1_10 (Or.inl ⟨by kernel_rfl, ?hyr20_1_10⟩) (by assumption) ?restr20_1_10
                case hqr20_1_10 => exact fun _ _ _ h => h
                case hyr20_1_10 => (intro w hSw; (try dsimp only at hSw); go_simp; try with_reducible rfl)
                try simp only [Act.put, List.getElem_toArray, List.getElem_cons_succ, List.getElem_cons_zero, List.setIfInBounds_toArray, List.set_cons_zero, List.set_cons_succ]
                refine wpAnyH_done (by kernel_rfl) ?_ _
                refine NoPanic.normal ?_
                have hfin2 : Bel wo _ := hbo2.then_ (And.left (by assumption))
                go_wp2_with fail
                go_roundw
                case rel => exact ⟨k + 1, by have := H1.out; omega, by have := H2.out; omega, by go_num, by rw [HSU.out, decide_eq_false hr0]; first | rfl | simp, HB.out.then_ hfin2⟩
                case measure => have := H1.out; simp [intOf]; omega
            · have ht4b : (ct == 4) = false := by simpa using ht4
              clear ht3 ht4
              have hw9 := wide_at cz
              have hx0 : 0 ≤ min 8 (max 0 cz) := by omega
              have hx1 : min 8 (max 0 cz) < 9 := by omega
              cases ha : allFit cols l k
              · rw [ha] at HSU
                clear ha
                go_wp2_with fail
                refine wp_region_noPanic ?_
                refine wp_region_held_drew (S := (fun V : World => Bel (wo.alloc (.cells #[.string cn, .int .i64 ct, .int .i64 cz, .bool cnl] 44)) V ∧ (V.cell? ⟨wo.heap.size, 0, none⟩ = some (.string cn) ∧ V.cell? ⟨wo.heap.size, 1, none⟩ = some (.int .i64 ct) ∧ V.cell? ⟨wo.heap.size, 2, none⟩ = some (.int .i64 cz) ∧ V.cell? ⟨wo.heap.size, 3, none⟩ = some (.bool cnl)) ∧ V.cell? ⟨bl, ol + k * 4, none⟩ = some (.int .i64 xk) ∧ V.cell? ⟨bl, ol + k * 4 + 1, none⟩ = some (.int .i64 xn) ∧ V.cell? ⟨bl, ol + k * 4 + 2, none⟩ = some (.int .u64 xu) ∧ V.cell? ⟨bl, ol + k * 4 + 3, none⟩ = some (.string xb))) (by kernel_rfl) ?_ (fun hHr21_0 => ?_)
                · (try dsimp only); (first | assumption | exact hS _ (Bel.refl _).drew | exact hS _ (Bel.then_ (And.left (by assumption)) hb7))
                refine wpAnyH_take (i := 0) (oi := _) (v := ?vr21_1_0) rfl (by kernel_rfl) (by kernel_rfl) (by kernel_rfl) ?hqr21_1_0 (Or.inl ⟨by kernel_rfl, ?hyr21_1_0⟩) (by assumption) ?restr21_1_0
                case hqr21_1_0 => exact fun _ _ _ h => h
                case hyr21_1_0 => (intro w hSw; (try dsimp only at hSw); go_simp; try with_reducible rfl)
                try simp only [Act.put, List.getElem_toArray, List.getElem_cons_succ, List.getElem_cons_zero, List.setIfInBounds_toArray, List.set_cons_zero, List.set_cons_succ]
                refine wpAnyH_take (i := 1) (oi := _) (v := ?vr21_1_1) rfl (by kernel_rfl) (by kernel_rfl) (by kernel_rfl) ?hqr21_1_1 (Or.inl ⟨by kernel_rfl, ?hyr21_1_1⟩) (by assumption) ?restr21_1_1
                case hqr21_1_1 => exact fun _ _ _ h => h
                case hyr21_1_1 => (intro w hSw; (try dsimp only at hSw); go_simp; try with_reducible rfl)
                try simp only [Act.put, List.getElem_toArray, List.getElem_cons_succ, List.getElem_cons_zero, List.setIfInBounds_toArray, List.set_cons_zero, List.set_cons_succ]
                refine wpAnyH_take (i := 2) (oi := _) (v := ?vr21_1_2) rfl (by kernel_rfl) (by kernel_rfl) (by kernel_rfl) ?hqr21_1_2 (Or.inl ⟨by kernel_rfl, ?hyr21_1_2⟩) (by assumption) ?restr21_1_2
                case hqr21_1_2 => exact fun _ _ _ h => h
                case hyr21_1_2 => (intro w hSw; (try dsimp only at hSw); go_simp; try with_reducible rfl)
                try simp only [Act.put, List.getElem_toArray, List.getElem_cons_succ, List.getElem_cons_zero, List.setIfInBounds_toArray, List.set_cons_zero, List.set_cons_succ]
                refine wpAnyH_take (i := 3) (oi := _) (v := ?vr21_1_3) rfl (by kernel_rfl) (by kernel_rfl) (by kernel_rfl) ?hqr21_1_3 (Or.inl ⟨by kernel_rfl, ?hyr21_1_3⟩) (by assumption) ?restr21_1_3
                case hqr21_1_3 => exact fun _ _ _ h => h
                case hyr21_1_3 => (intro w hSw; (try dsimp only at hSw); go_simp; try with_reducible rfl)
                try simp only [Act.put, List.getElem_toArray, List.getElem_cons_succ, List.getElem_cons_zero, List.setIfInBounds_toArray, List.set_cons_zero, List.set_cons_succ]
                refine wpAnyH_take (i := 4) (oi := _) (v := ?vr21_1_4) rfl (by kernel_rfl) (by kernel_rfl) (by kernel_rfl) ?hqr21_1_4 (Or.inl ⟨by kernel_rfl, ?hyr21_1_4⟩) (by assumption) ?restr21_1_4
                case hqr21_1_4 => exact fun _ _ _ h => h
                case hyr21_1_4 => (intro w hSw; (try dsimp only at hSw); go_simp; try with_reducible rfl)
                try simp only [Act.put, List.getElem_toArray, List.getElem_cons_succ, List.getElem_cons_zero, List.setIfInBounds_toArray, List.set_cons_zero, List.set_cons_succ]
                refine wpAnyH_ready (rs := [5]) (by kernel_rfl) (by simp) ?_
                refine AllReadyH.cons (o := _) rfl (fun K hK => ?_) AllReadyH.nil
                go_simp
                (go_at_call 23; refine (HF1.out _ (hbw1.then_ (And.left (by assumption)))).mono ?_; rintro e w7 ⟨rfl, hb7⟩)
                try (go_wp2_with fail)
                refine hK.out _ _ ?_ (fun hHr21_1 => ?_)
                · (try dsimp only); (first | assumption | exact hS _ (Bel.refl _).drew | exact hS _ (Bel.then_ (And.left (by assumption)) hb7))
                clear hK K hHr21_0
                try simp only [Act.put, List.getElem_toArray, List.getElem_cons_succ, List.getElem_cons_zero, List.setIfInBounds_toArray, List.set_cons_zero, List.set_cons_succ]
                refine wpAnyH_ready (rs := [6]) (by kernel_rfl) (by simp) ?_
                refine AllReadyH.cons (o := _) rfl (fun K hK => ?_) AllReadyH.nil
                go_simp
                (go_at_call 17; refine (mnum_any _ _).mono ?_; rintro e w' ⟨rfl, rfl⟩)
                try (go_wp2_with fail)
                refine hK.out _ _ ?_ (fun hHr21_2 => ?_)
                · (try dsimp only); (first | assumption | exact hS _ (Bel.refl _).drew | exact hS _ (Bel.then_ (And.left (by assumption)) hb7))
                clear hK K hHr21_1
                try simp only [Act.put, List.getElem_toArray, List.getElem_cons_succ, List.getElem_cons_zero, List.setIfInBounds_toArray, List.set_cons_zero, List.set_cons_succ]
                refine wpAnyH_take (i := 7) (oi := _) (v := ?vr21_1_7) rfl (by kernel_rfl) (by kernel_rfl) (by kernel_rfl) ?hqr21_1_7 (Or.inl ⟨by kernel_rfl, ?hyr21_1_7⟩) (by assumption) ?restr21_1_7
                case hqr21_1_7 => exact fun _ _ _ h => h
                case hyr21_1_7 => (intro w hSw; (try dsimp only at hSw); go_simp; try with_reducible rfl)
                try simp only [Act.put, List.getElem_toArray, List.getElem_cons_succ, List.getElem_cons_zero, List.setIfInBounds_toArray, List.set_cons_zero, List.set_cons_succ]
                refine wpAnyH_take (i := 8) (oi := _) (v := ?vr21_1_8) rfl (by kernel_rfl) (by kernel_rfl) (by kernel_rfl) ?hqr21_1_8 (Or.inl ⟨by kernel_rfl, ?hyr21_1_8⟩) (by assumption) ?restr21_1_8
                case hqr21_1_8 => exact fun _ _ _ h => h
                case hyr21_1_8 => (intro w hSw; (try dsimp only at hSw); go_simp; try with_reducible rfl)
                try simp only [Act.put, List.getElem_toArray, List.getElem_cons_succ, List.getElem_cons_zero, List.setIfInBounds_toArray, List.set_cons_zero, List.set_cons_succ]
                refine wpAnyH_done (by kernel_rfl) ?_ _
                refine NoPanic.normal ?_
                obtain ⟨hfin, ⟨d0, d1, d2, d3⟩, e0, e1, e2, e3⟩ : (fun V : World => Bel (wo.alloc (.cells #[.string cn, .int .i64 ct, .int .i64 cz, .bool cnl] 44)) V ∧ (V.cell? ⟨wo.heap.size, 0, none⟩ = some (.string cn) ∧ V.cell? ⟨wo.heap.size, 1, none⟩ = some (.int .i64 ct) ∧ V.cell? ⟨wo.heap.size, 2, none⟩ = some (.int .i64 cz) ∧ V.cell? ⟨wo.heap.size, 3, none⟩ = some (.bool cnl)) ∧ V.cell? ⟨bl, ol + k * 4, none⟩ = some (.int .i64 xk) ∧ V.cell? ⟨bl, ol + k * 4 + 1, none⟩ = some (.int .i64 xn) ∧ V.cell? ⟨bl, ol + k * 4 + 2, none⟩ = some (.int .u64 xu) ∧ V.cell? ⟨bl, ol + k * 4 + 3, none⟩ = some (.string xb)) _ := (by assumption)
                have z2 := HFZ.out _ hfin 2 (by omega)
                have z3 := HFZ.out _ hfin 3 (by omega)
                have hlt9 : wo.heap.size < w7.heap.size := by have := hfin.size; simp at this; omega
                have hbo : Bel wo w7 := ((Bel.refl wo).alloc _).then_ hfin
                go_wp2_with fail
                refine wp_name ?_
                intro W2 hW2
                have g0 : W2.cell? ⟨wo.heap.size, 0, none⟩ = some (.string cn) := by rw [hW2]; go_simp
                have g1 : W2.cell? ⟨wo.heap.size, 1, none⟩ = some (.int .i64 ct) := by rw [hW2]; go_simp
                skip
                have g2 : W2.cell? ⟨wo.heap.size, 2, none⟩ = some (.int .i64 (wideI cz)) := by rw [hW2]; go_simp
                have g3 : W2.cell? ⟨wo.heap.size, 3, none⟩ = some (.bool true) := by rw [hW2]; go_simp
                have hbo2 : Bel wo W2 := by rw [hW2]; (repeat (first | exact hbo | refine Bel.alloc ?_ _ | refine Bel.setCell ?_ (by simp) _))
                have hbw2 : Bel w W2 := HBW.out.then_ hbo2
                have hQ2 : ∀ V, Bel W2 V → (fun V : World => Bel W2 V ∧ (V.cell? ⟨wo.heap.size, 0, none⟩ = some (.string cn) ∧ V.cell? ⟨wo.heap.size, 1, none⟩ = some (.int .i64 ct) ∧ V.cell? ⟨wo.heap.size, 2, none⟩ = some (.int .i64 (wideI cz)) ∧ V.cell? ⟨wo.heap.size, 3, none⟩ = some (.bool true)) ∧ V.cell? ⟨bl, ol + k * 4, none⟩ = some (.int .i64 xk) ∧ V.cell? ⟨bl, ol + k * 4 + 1, none⟩ = some (.int .i64 xn) ∧ V.cell? ⟨bl, ol + k * 4 + 2, none⟩ = some (.int .u64 xu) ∧ V.cell? ⟨bl, ol + k * 4 + 3, none⟩ = some (.string xb)) V := fun V h => ⟨h, ⟨h.c g0, h.c g1, h.c g2, h.c g3⟩, HE.out V (hbw2.then_ h)⟩
                clear hW2 hfin d0 d1 d2 d3 e0 e1 e2 e3 z2 z3 hlt9 hbo
                refine wp_region_noPanic ?_
                refine wp_region_held_drew (S := (fun V : World => Bel W2 V ∧ (V.cell? ⟨wo.heap.size, 0, none⟩ = some (.string cn) ∧ V.cell? ⟨wo.heap.size, 1, none⟩ = some (.int .i64 ct) ∧ V.cell? ⟨wo.heap.size, 2, none⟩ = some (.int .i64 (wideI cz)) ∧ V.cell? ⟨wo.heap.size, 3, none⟩ = some (.bool true)) ∧ V.cell? ⟨bl, ol + k * 4, none⟩ = some (.int .i64 xk) ∧ V.cell? ⟨bl, ol + k * 4 + 1, none⟩ = some (.int .i64 xn) ∧ V.cell? ⟨bl, ol + k * 4 + 2, none⟩ = some (.int .u64 xu) ∧ V.cell? ⟨bl, ol + k * 4 + 3, none⟩ = some (.string xb))) (by kernel_rfl) ?_ (fun hHr22_0 => ?_)
                · (try dsimp only); (first | assumption | exact hQ2 _ (Bel.refl _).drew)
                refine wpAnyH_take (i := 0) (oi := _) (v := ?vr22_1_0) rfl (by kernel_rfl) (by kernel_rfl) (by kernel_rfl) ?hqr22_1_0 (Or.inl ⟨by kernel_rfl, ?hyr22_1_0⟩) (by assumption) ?restr22_1_0
                case hqr22_1_0 => exact fun _ _ _ h => h
                case hyr22_1_0 => (intro w hSw; (try dsimp only at hSw); go_simp; try with_reducible rfl)
                try simp only [Act.put, List.getElem_toArray, List.getElem_cons_succ, List.getElem_cons_zero, List.setIfInBounds_toArray, List.set_cons_zero, List.set_cons_succ]
                refine wpAnyH_take (i := 1) (oi := _) (v := ?vr22_1_1) rfl (by kernel_rfl) (by kernel_rfl) (by kernel_rfl) ?hqr22_1_1 (Or.inl ⟨by kernel_rfl, ?hyr22_1_1⟩) (by assumption) ?restr22_1_1
                case hqr22_1_1 => exact fun _ _ _ h => h
                case hyr22_1_1 => (intro w hSw; (try dsimp only at hSw); go_simp; try with_reducible rfl)
                try simp only [Act.put, List.getElem_toArray, List.getElem_cons_succ, List.getElem_cons_zero, List.setIfInBounds_toArray, List.set_cons_zero, List.set_cons_succ]
                refine wpAnyH_take (i := 2) (oi := _) (v := undef) rfl (by kernel_rfl) (by kernel_rfl) (by kernel_rfl) (fun _ _ _ h => h) (Or.inr ⟨by kernel_rfl, rfl⟩) (by assumption) ?restr22_1_2
                try simp only [Act.put, List.getElem_toArray, List.getElem_cons_succ, List.getElem_cons_zero, List.setIfInBounds_toArray, List.set_cons_zero, List.set_cons_succ]
                refine wpAnyH_take (i := 3) (oi := _) (v := undef) rfl (by kernel_rfl) (by kernel_rfl) (by kernel_rfl) (fun _ _ _ h => h) (Or.inr ⟨by kernel_rfl, rfl⟩) (by assumption) ?restr22_1_3
                try simp only [Act.put, List.getElem_toArray, List.getElem_cons_succ, List.getElem_cons_zero, List.setIfInBounds_toArray, List.set_cons_zero, List.set_cons_succ]
                refine wpAnyH_take (i := 4) (oi := _) (v := undef) rfl (by kernel_rfl) (by kernel_rfl) (by kernel_rfl) (fun _ _ _ h => h) (Or.inr ⟨by kernel_rfl, rfl⟩) (by assumption) ?restr22_1_4
                try simp only [Act.put, List.getElem_toArray, List.getElem_cons_succ, List.getElem_cons_zero, List.setIfInBounds_toArray, List.set_cons_zero, List.set_cons_succ]
                refine wpAnyH_take (i := 5) (oi := _) (v := undef) rfl (by kernel_rfl) (by kernel_rfl) (by kernel_rfl) (fun _ _ _ h => h) (Or.inr ⟨by kernel_rfl, rfl⟩) (by assumption) ?restr22_1_5
                try simp only [Act.put, List.getElem_toArray, List.getElem_cons_succ, List.getElem_cons_zero, List.setIfInBounds_toArray, List.set_cons_zero, List.set_cons_succ]
                refine wpAnyH_take (i := 6) (oi := _) (v := undef) rfl (by kernel_rfl) (by kernel_rfl) (by kernel_rfl) (fun _ _ _ h => h) (Or.inr ⟨by kernel_rfl, rfl⟩) (by assumption) ?restr22_1_6
                try simp only [Act.put, List.getElem_toArray, List.getElem_cons_succ, List.getElem_cons_zero, List.setIfInBounds_toArray, List.set_cons_zero, List.set_cons_succ]
                refine wpAnyH_take (i := 7) (oi := _) (v := undef) rfl (by kernel_rfl) (by kernel_rfl) (by kernel_rfl) (fun _ _ _ h => h) (Or.inr ⟨by kernel_rfl, rfl⟩) (by assumption) ?restr22_1_7
                try simp only [Act.put, List.getElem_toArray, List.getElem_cons_succ, List.getElem_cons_zero, List.setIfInBounds_toArray, List.set_cons_zero, List.set_cons_succ]
                refine wpAnyH_take (i := 8) (oi := _) (v := undef) rfl (by kernel_rfl) (by kernel_rfl) (by kernel_rfl) (fun _ _ _ h => h) (Or.inr ⟨by kernel_rfl, rfl⟩) (by assumption) ?restr22_1_8
                try simp only [Act.put, List.getElem_toArray, List.getElem_cons_succ, List.getElem_cons_zero, List.setIfInBounds_toArray, List.set_cons_zero, List.set_cons_succ]
                refine wpAnyH_take (i := 9) (oi := _) (v := undef) rfl (by kernel_rfl) (by kernel_rfl) (by kernel_rfl) (fun _ _ _ h => h) (Or.inr ⟨by kernel_rfl, rfl⟩) (by assumption) ?restr22_1_9
                try simp only [Act.put, List.getElem_toArray, List.getElem_cons_succ, List.getElem_cons_zero, List.setIfInBounds_toArray, List.set_cons_zero, List.set_cons_succ]
                refine wpAnyH_take (i := 10) (oi := _) (v := ?vr22_1_10) rfl (by kernel_rfl) (by kernel_rfl) (by kernel_rfl) ?hqr22_1_10 (Or.inl ⟨by kernel_rfl, ?hyr22_1_10⟩) (by assumption) ?restr22_1_10
                case hqr22_1_10 => exact fun _ _ _ h => h
                case hyr22_1_10 => (intro w hSw; (try dsimp only at hSw); go_simp; try with_reducible rfl)
                try simp only [Act.put, List.getElem_toArray, List.getElem_cons_succ, List.getElem_cons_zero, List.setIfInBounds_toArray, List.set_cons_zero, List.set_cons_succ]
                refine wpAnyH_done (by kernel_rfl) ?_ _
                refine NoPanic.normal ?_
                have hfin2 : Bel wo _ := hbo2.then_ (And.left (by assumption))
                go_wp2_with fail
                go_roundw
                case rel => exact ⟨k + 1, by have := H1.out; omega, by have := H2.out; omega, by go_num, by rw [HSU.out, decide_eq_false hr0]; first | rfl | simp, HB.out.then_ hfin2⟩
                case measure => have := H1.out; simp [intOf]; omega
              · rw [ha] at HSU
                clear ha
                go_wp2_with fail
                refine wp_region_noPanic ?_
                refine wp_region_held_drew (S := (fun V : World => Bel (wo.alloc (.cells #[.string cn, .int .i64 ct, .int .i64 cz, .bool cnl] 44)) V ∧ (V.cell? ⟨wo.heap.size, 0, none⟩ = some (.string cn) ∧ V.cell? ⟨wo.heap.size, 1, none⟩ = some (.int .i64 ct) ∧ V.cell? ⟨wo.heap.size, 2, none⟩ = some (.int .i64 cz) ∧ V.cell? ⟨wo.heap.size, 3, none⟩ = some (.bool cnl)) ∧ V.cell? ⟨bl, ol + k * 4, none⟩ = some (.int .i64 xk) ∧ V.cell? ⟨bl, ol + k * 4 + 1, none⟩ = some (.int .i64 xn) ∧ V.cell? ⟨bl, ol + k * 4 + 2, none⟩ = some (.int .u64 xu) ∧ V.cell? ⟨bl, ol + k * 4 + 3, none⟩ = some (.string xb))) (by kernel_rfl) ?_ (fun hHr23_0 => ?_)
                · (try dsimp only); (first | assumption | exact hS _ (Bel.refl _).drew | exact hS _ (Bel.then_ (And.left (by assumption)) hb7))
                refine wpAnyH_take (i := 0) (oi := _) (v := ?vr23_1_0) rfl (by kernel_rfl) (by kernel_rfl) (by kernel_rfl) ?hqr23_1_0 (Or.inl ⟨by kernel_rfl, ?hyr23_1_0⟩) (by assumption) ?restr23_1_0
                case hqr23_1_0 => exact fun _ _ _ h => h
                case hyr23_1_0 => (intro w hSw; (try dsimp only at hSw); go_simp; try with_reducible rfl)
                try simp only [Act.put, List.getElem_toArray, List.getElem_cons_succ, List.getElem_cons_zero, List.setIfInBounds_toArray, List.set_cons_zero, List.set_cons_succ]
                refine wpAnyH_take (i := 1) (oi := _) (v := ?vr23_1_1) rfl (by kernel_rfl) (by kernel_rfl) (by kernel_rfl) ?hqr23_1_1 (Or.inl ⟨by kernel_rfl, ?hyr23_1_1⟩) (by assumption) ?restr23_1_1
                case hqr23_1_1 => exact fun _ _ _ h => h
                case hyr23_1_1 => (intro w hSw; (try dsimp only at hSw); go_simp; try with_reducible rfl)
                try simp only [Act.put, List.getElem_toArray, List.getElem_cons_succ, List.getElem_cons_zero, List.setIfInBounds_toArray, List.set_cons_zero, List.set_cons_succ]
                refine wpAnyH_take (i := 2) (oi := _) (v := ?vr23_1_2) rfl (by kernel_rfl) (by kernel_rfl) (by kernel_rfl) ?hqr23_1_2 (Or.inl ⟨by kernel_rfl, ?hyr23_1_2⟩) (by assumption) ?restr23_1_2
                case hqr23_1_2 => exact fun _ _ _ h => h
                case hyr23_1_2 => (intro w hSw; (try dsimp only at hSw); go_simp; try with_reducible rfl)
                try simp only [Act.put, List.getElem_toArray, List.getElem_cons_succ, List.getElem_cons_zero, List.setIfInBounds_toArray, List.set_cons_zero, List.set_cons_succ]
                refine wpAnyH_take (i := 3) (oi := _) (v := ?vr23_1_3) rfl (by kernel_rfl) (by kernel_rfl) (by kernel_rfl) ?hqr23_1_3 (Or.inl ⟨by kernel_rfl, ?hyr23_1_3⟩) (by assumption) ?restr23_1_3
                case hqr23_1_3 => exact fun _ _ _ h => h
                case hyr23_1_3 => (intro w hSw; (try dsimp only at hSw); go_simp; try with_reducible rfl)
                try simp only [Act.put, List.getElem_toArray, List.getElem_cons_succ, List.getElem_cons_zero, List.setIfInBounds_toArray, List.set_cons_zero, List.set_cons_succ]
                refine wpAnyH_take (i := 4) (oi := _) (v := ?vr23_1_4) rfl (by kernel_rfl) (by kernel_rfl) (by kernel_rfl) ?hqr23_1_4 (Or.inl ⟨by kernel_rfl, ?hyr23_1_4⟩) (by assumption) ?restr23_1_4
                case hqr23_1_4 => exact fun _ _ _ h => h
                case hyr23_1_4 => (intro w hSw; (try dsimp only at hSw); go_simp; try with_reducible rfl)
                try simp only [Act.put, List.getElem_toArray, List.getElem_cons_succ, List.getElem_cons_zero, List.setIfInBounds_toArray, List.set_cons_zero, List.set_cons_succ]
                refine wpAnyH_ready (rs := [5]) (by kernel_rfl) (by simp) ?_
                refine AllReadyH.cons (o := _) rfl (fun K hK => ?_) AllReadyH.nil
                go_simp
                (go_at_call 23; refine (HF1.out _ (hbw1.then_ (And.left (by assumption)))).mono ?_; rintro e w7 ⟨rfl, hb7⟩)
                try (go_wp2_with fail)
                refine hK.out _ _ ?_ (fun hHr23_1 => ?_)
                · (try dsimp only); (first | assumption | exact hS _ (Bel.refl _).drew | exact hS _ (Bel.then_ (And.left (by assumption)) hb7))
                clear hK K hHr23_0
                try simp only [Act.put, List.getElem_toArray, List.getElem_cons_succ, List.getElem_cons_zero, List.setIfInBounds_toArray, List.set_cons_zero, List.set_cons_succ]
                refine wpAnyH_ready (rs := [6]) (by kernel_rfl) (by simp) ?_
                refine AllReadyH.cons (o := _) rfl (fun K hK => ?_) AllReadyH.nil
                go_simp
                (go_at_call 17; refine (mnum_any _ _).mono ?_; rintro e w' ⟨rfl, rfl⟩)
                try (go_wp2_with fail)
                refine hK.out _ _ ?_ (fun hHr23_2 => ?_)
                · (try dsimp only); (first | assumption | exact hS _ (Bel.refl _).drew | exact hS _ (Bel.then_ (And.left (by assumption)) hb7))
                clear hK K hHr23_1
                try simp only [Act.put, List.getElem_toArray, List.getElem_cons_succ, List.getElem_cons_zero, List.setIfInBounds_toArray, List.set_cons_zero, List.set_cons_succ]
                refine wpAnyH_take (i := 7) (oi := _) (v := ?vr23_1_7) rfl (by kernel_rfl) (by kernel_rfl) (by kernel_rfl) ?hqr23_1_7 (Or.inl ⟨by kernel_rfl, ?hyr23_1_7⟩) (by assumption) ?restr23_1_7
                case hqr23_1_7 => exact fun _ _ _ h => h
                case hyr23_1_7 => (intro w hSw; (try dsimp only at hSw); go_simp; try with_reducible rfl)
                try simp only [Act.put, List.getElem_toArray, List.getElem_cons_succ, List.getElem_cons_zero, List.setIfInBounds_toArray, List.set_cons_zero, List.set_cons_succ]
                refine wpAnyH_take (i := 8) (oi := _) (v := ?vr23_1_8) rfl (by kernel_rfl) (by kernel_rfl) (by kernel_rfl) ?hqr23_1_8 (Or.inl ⟨by kernel_rfl, ?hyr23_1_8⟩) (by assumption) ?restr23_1_8
                case hqr23_1_8 => exact fun _ _ _ h => h
                case hyr23_1_8 => (intro w hSw; (try dsimp only at hSw); go_simp; try with_reducible rfl)
                try simp only [Act.put, List.getElem_toArray, List.getElem_cons_succ, List.getElem_cons_zero, List.setIfInBounds_toArray, List.set_cons_zero, List.set_cons_succ]
                refine wpAnyH_done (by kernel_rfl) ?_ _
                refine NoPanic.normal ?_
                obtain ⟨hfin, ⟨d0, d1, d2, d3⟩, e0, e1, e2, e3⟩ : (fun V : World => Bel (wo.alloc (.cells #[.string cn, .int .i64 ct, .int .i64 cz, .bool cnl] 44)) V ∧ (V.cell? ⟨wo.heap.size, 0, none⟩ = some (.string cn) ∧ V.cell? ⟨wo.heap.size, 1, none⟩ = some (.int .i64 ct) ∧ V.cell? ⟨wo.heap.size, 2, none⟩ = some (.int .i64 cz) ∧ V.cell? ⟨wo.heap.size, 3, none⟩ = some (.bool cnl)) ∧ V.cell? ⟨bl, ol + k * 4, none⟩ = some (.int .i64 xk) ∧ V.cell? ⟨bl, ol + k * 4 + 1, none⟩ = some (.int .i64 xn) ∧ V.cell? ⟨bl, ol + k * 4 + 2, none⟩ = some (.int .u64 xu) ∧ V.cell? ⟨bl, ol + k * 4 + 3, none⟩ = some (.string xb)) _ := (by assumption)
                have z2 := HFZ.out _ hfin 2 (by omega)
                have z3 := HFZ.out _ hfin 3 (by omega)
                have hlt9 : wo.heap.size < w7.heap.size := by have := hfin.size; simp at this; omega
                have hbo : Bel wo w7 := ((Bel.refl wo).alloc _).then_ hfin
                go_wp2_with fail
                refine wp_name ?_
                intro W2 hW2
                have g0 : W2.cell? ⟨wo.heap.size, 0, none⟩ = some (.string cn) := by rw [hW2]; go_simp
                have g1 : W2.cell? ⟨wo.heap.size, 1, none⟩ = some (.int .i64 ct) := by rw [hW2]; go_simp
                skip
                have g2 : W2.cell? ⟨wo.heap.size, 2, none⟩ = some (.int .i64 (wideI cz)) := by rw [hW2]; go_simp
                have g3 : W2.cell? ⟨wo.heap.size, 3, none⟩ = some (.bool true) := by rw [hW2]; go_simp
                have hbo2 : Bel wo W2 := by rw [hW2]; (repeat (first | exact hbo | refine Bel.alloc ?_ _ | refine Bel.setCell ?_ (by simp) _))
                have hbw2 : Bel w W2 := HBW.out.then_ hbo2
                have hQ2 : ∀ V, Bel W2 V → (fun V : World => Bel W2 V ∧ (V.cell? ⟨wo.heap.size, 0, none⟩ = some (.string cn) ∧ V.cell? ⟨wo.heap.size, 1, none⟩ = some (.int .i64 ct) ∧ V.cell? ⟨wo.heap.size, 2, none⟩ = some (.int .i64 (wideI cz)) ∧ V.cell? ⟨wo.heap.size, 3, none⟩ = some (.bool true)) ∧ V.cell? ⟨bl, ol + k * 4, none⟩ = some (.int .i64 xk) ∧ V.cell? ⟨bl, ol + k * 4 + 1, none⟩ = some (.int .i64 xn) ∧ V.cell? ⟨bl, ol + k * 4 + 2, none⟩ = some (.int .u64 xu) ∧ V.cell? ⟨bl, ol + k * 4 + 3, none⟩ = some (.string xb)) V := fun V h => ⟨h, ⟨h.c g0, h.c g1, h.c g2, h.c g3⟩, HE.out V (hbw2.then_ h)⟩
                clear hW2 hfin d0 d1 d2 d3 e0 e1 e2 e3 z2 z3 hlt9 hbo
                refine wp_region_noPanic ?_
                refine wp_region_held_drew (S := (fun V : World => Bel W2 V ∧ (V.cell? ⟨wo.heap.size, 0, none⟩ = some (.string cn) ∧ V.cell? ⟨wo.heap.size, 1, none⟩ = some (.int .i64 ct) ∧ V.cell? ⟨wo.heap.size, 2, none⟩ = some (.int .i64 (wideI cz)) ∧ V.cell? ⟨wo.heap.size, 3, none⟩ = some (.bool true)) ∧ V.cell? ⟨bl, ol + k * 4, none⟩ = some (.int .i64 xk) ∧ V.cell? ⟨bl, ol + k * 4 + 1, none⟩ = some (.int .i64 xn) ∧ V.cell? ⟨bl, ol + k * 4 + 2, none⟩ = some (.int .u64 xu) ∧ V.cell? ⟨bl, ol + k * 4 + 3, none⟩ = some (.string xb))) (by kernel_rfl) ?_ (fun hHr24_0 => ?_)
                · (try dsimp only); (first | assumption | exact hQ2 _ (Bel.refl _).drew)
                refine wpAnyH_take (i := 0) (oi := _) (v := ?vr24_1_0) rfl (by kernel_rfl) (by kernel_rfl) (by kernel_rfl) ?hqr24_1_0 (Or.inl ⟨by kernel_rfl, ?hyr24_1_0⟩) (by assumption) ?restr24_1_0
                case hqr24_1_0 => exact fun _ _ _ h => h
                case hyr24_1_0 => (intro w hSw; (try dsimp only at hSw); go_simp; try with_reducible rfl)
                try simp only [Act.put, List.getElem_toArray, List.getElem_cons_succ, List.getElem_cons_zero, List.setIfInBounds_toArray, List.set_cons_zero, List.set_cons_succ]
                refine wpAnyH_take (i := 1) (oi := _) (v := ?vr24_1_1) rfl (by kernel_rfl) (by kernel_rfl) (by kernel_rfl) ?hqr24_1_1 (Or.inl ⟨by kernel_rfl, ?hyr24_1_1⟩) (by assumption) ?restr24_1_1
                case hqr24_1_1 => exact fun _ _ _ h => h
                case hyr24_1_1 => (intro w hSw; (try dsimp only at hSw); go_simp; try with_reducible rfl)
                try simp only [Act.put, List.getElem_toArray, List.getElem_cons_succ, List.getElem_cons_zero, List.setIfInBounds_toArray, List.set_cons_zero, List.set_cons_succ]
                refine wpAnyH_take (i := 2) (oi := _) (v := undef) rfl (by kernel_rfl) (by kernel_rfl) (by kernel_rfl) (fun _ _ _ h => h) (Or.inr ⟨by kernel_rfl, rfl⟩) (by assumption) ?restr24_1_2
                try simp only [Act.put, List.getElem_toArray, List.getElem_cons_succ, List.getElem_cons_zero, List.setIfInBounds_toArray, List.set_cons_zero, List.set_cons_succ]
                refine wpAnyH_take (i := 3) (oi := _) (v := undef) rfl (by kernel_rfl) (by kernel_rfl) (by kernel_rfl) (fun _ _ _ h => h) (Or.inr ⟨by kernel_rfl, rfl⟩) (by assumption) ?restr24_1_3
                try simp only [Act.put, List.getElem_toArray, List.getElem_cons_succ, List.getElem_cons_zero, List.setIfInBounds_toArray, List.set_cons_zero, List.set_cons_succ]
                refine wpAnyH_take (i := 4) (oi := _) (v := undef) rfl (by kernel_rfl) (by kernel_rfl) (by kernel_rfl) (fun _ _ _ h => h) (Or.inr ⟨by kernel_rfl, rfl⟩) (by assumption) ?restr24_1_4
                try simp only [Act.put, List.getElem_toArray, List.getElem_cons_succ, List.getElem_cons_zero, List.setIfInBounds_toArray, List.set_cons_zero, List.set_cons_succ]
                refine wpAnyH_take (i := 5) (oi := _) (v := undef) rfl (by kernel_rfl) (by kernel_rfl) (by kernel_rfl) (fun _ _ _ h => h) (Or.inr ⟨by kernel_rfl, rfl⟩) (by assumption) ?restr24_1_5
                try simp only [Act.put, List.getElem_toArray, List.getElem_cons_succ, List.getElem_cons_zero, List.setIfInBounds_toArray, List.set_cons_zero, List.set_cons_succ]
                refine wpAnyH_take (i := 6) (oi := _) (v := undef) rfl (by kernel_rfl) (by kernel_rfl) (by kernel_rfl) (fun _ _ _ h => h) (Or.inr ⟨by kernel_rfl, rfl⟩) (by assumption) ?restr24_1_6
                try simp only [Act.put, List.getElem_toArray, List.getElem_cons_succ, List.getElem_cons_zero, List.setIfInBounds_toArray, List.set_cons_zero, List.set_cons_succ]
                refine wpAnyH_take (i := 7) (oi := _) (v := undef) rfl (by kernel_rfl) (by kernel_rfl) (by kernel_rfl) (fun _ _ _ h => h) (Or.inr ⟨by kernel_rfl, rfl⟩) (by assumption) ?restr24_1_7
                try simp only [Act.put, List.getElem_toArray, List.getElem_cons_succ, List.getElem_cons_zero, List.setIfInBounds_toArray, List.set_cons_zero, List.set_cons_succ]
                refine wpAnyH_take (i := 8) (oi := _) (v := undef) rfl (by kernel_rfl) (by kernel_rfl) (by kernel_rfl) (fun _ _ _ h => h) (Or.inr ⟨by kernel_rfl, rfl⟩) (by assumption) ?restr24_1_8
                try simp only [Act.put, List.getElem_toArray, List.getElem_cons_succ, List.getElem_cons_zero, List.setIfInBounds_toArray, List.set_cons_zero, List.set_cons_succ]
                refine wpAnyH_take (i := 9) (oi := _) (v := undef) rfl (by kernel_rfl) (by kernel_rfl) (by kernel_rfl) (fun _ _ _ h => h) (Or.inr ⟨by kernel_rfl, rfl⟩) (by assumption) ?restr24_1_9
                try simp only [Act.put, List.getElem_toArray, List.getElem_cons_succ, List.getElem_cons_zero, List.setIfInBounds_toArray, List.set_cons_zero, List.set_cons_succ]
                refine wpAnyH_take (i := 10) (oi := _) (v := ?vr24_1_10) rfl (by kernel_rfl) (by kernel_rfl) (by kernel_rfl) ?hqr24_1_10 (Or.inl ⟨by kernel_rfl, ?hyr24_1_10⟩) (by assumption) ?restr24_1_10
                case hqr24_1_10 => exact fun _ _ _ h => h
                case hyr24_1_10 => (intro w hSw; (try dsimp only at hSw); go_simp; try with_reducible rfl)
                try simp only [Act.put, List.getElem_toArray, List.getElem_cons_succ, List.getElem_cons_zero, List.setIfInBounds_toArray, List.set_cons_zero, List.set_cons_succ]
                refine wpAnyH_done (by kernel_rfl) ?_ _
                refine NoPanic.normal ?_
                have hfin2 : Bel wo _ := hbo2.then_ (And.left (by assumption))
                go_wp2_with fail
                go_roundw
                case rel => exact ⟨k + 1, by have := H1.out; omega, by have := H2.out; omega, by go_num, by rw [HSU.out, decide_eq_false hr0]; first | rfl | simp, HB.out.then_ hfin2⟩
                case measure => have := H1.out; simp [intOf]; omega
      · skip
        have hmin : min l.length cols.length = k := by omega
        have hka : (k : Int) < l.length := by omega
        have hkb : decide (k < cols.length) = false := by simp; omega
        rw [hmin] at HRA HKF
        clear hmin h1 h2
        cases ha : allFit cols l k
        · have hra : (ra == 0) = false := by rw [HRA.out, ha]
          clear ha HKF HRA
          go_wp2_with fail
          refine (HSR.out _ HBW.out).mono ?_
          rintro e w7 ⟨rfl, hb7⟩
          go_wp2_with (go_at_call 17; refine (mnum_any _ _).mono ?_; rintro e w' ⟨rfl, rfl⟩)
          refine (HW.out _ (HBW.out.then_ hb7)).mono ?_
          rintro e w9 ⟨rfl, hb9⟩
          go_wp2_with fail
          go_ret
          exact ⟨rfl, (HBW.out.then_ hb7).then_ hb9⟩
        · have hra : (ra == 0) = true := by rw [HRA.out, ha]
          obtain ⟨hp2, hpl, hpk⟩ := HKF.out ha
          clear ha HKF HRA
          obtain ⟨pl, pe⟩ := pv
          dsimp only at hp2 hpl hpk HPK
          subst hp2
          have HPL := Lib.hid hpl
          have HPKK := Lib.hid hpk
          clear hpl hpk
          go_wp2_with fail
          refine (HSR.out _ HBW.out).mono ?_
          rintro e w7 ⟨rfl, hb7⟩
          have k1 := hb7.c l1
          go_wp2_with (go_at_call 17; refine (mnum_any _ _).mono ?_; rintro e w' ⟨rfl, rfl⟩)
          refine (HPK.out _ (HBW.out.then_ hb7) hk1000).mono ?_
          rintro e w8 ⟨v, rfl, hv, hb8⟩
          obtain ⟨Av, cv, rfl, hcv, hmv, hiv⟩ := hv
          have k2 := hb8.c k1
          have HIV := Lib.hid hiv
          have hpI : (pl.length : Int) ≤ 9223372036854775807 := by unfold maxLen at hmv; omega
          have HBZ := Lib.hid ((HBW.out.then_ hb7).then_ hb8)
          have hpk2 : ((pl.length : Int) == key.length) = true := by rw [HPL.out]; simp
          clear hiv hcv hmv hb7 hb8 k1
          go_wp2_with fail
          go_loop [11] (fun i => ∃ j : Nat, j ≤ pl.length ∧ i = .int .i64 j) (fun i => pl.length - (intOf i).toNat)
          case atStart => exact ⟨0, Nat.zero_le _, rfl⟩
          case round =>
            obtain ⟨j, hj, rfl⟩ := hrel
            by_cases hlt : j < pl.length
            · obtain ⟨y, hy⟩ : ∃ y, pl[j]? = some y := ⟨_, List.getElem?_eq_getElem hlt⟩
              obtain ⟨bv, ov, rfl, hiv⟩ := HIV.out (by omega)
              have p0 := (hiv j y hy).1
              have hy0 : (y.k == 0) = false := by simpa using HPKK.out y (List.mem_of_getElem? hy)
              have hjI : (j : Int) < pl.length := by omega
              clear hy hiv
              go_wp2_with fail
              go_round
              case rel => exact ⟨j + 1, by omega, by go_num⟩
              case measure => simp [intOf]; omega
            · obtain rfl : j = pl.length := by omega
              clear hlt hj
              go_wp2_with (go_at_call 17; refine (mnum_any _ _).mono ?_; rintro e w' ⟨rfl, rfl⟩)
              refine (HW.out _ HBZ.out).mono ?_
              rintro e w9 ⟨rfl, hb9⟩
              go_wp2_with fail
              go_ret
              exact ⟨rfl, HBZ.out.then_ hb9⟩
    · skip
      have hmin : min l.length cols.length = k := by omega
      have hkb : decide (k < l.length) = false := by simp; omega
      rw [hmin] at HRA HKF
      clear hmin h1
      cases ha : allFit cols l k
      · have hra : (ra == 0) = false := by rw [HRA.out, ha]
        clear ha HKF HRA
        go_wp2_with fail
        refine (HSR.out _ HBW.out).mono ?_
        rintro e w7 ⟨rfl, hb7⟩
        go_wp2_with (go_at_call 17; refine (mnum_any _ _).mono ?_; rintro e w' ⟨rfl, rfl⟩)
        refine (HW.out _ (HBW.out.then_ hb7)).mono ?_
        rintro e w9 ⟨rfl, hb9⟩
        go_wp2_with fail
        go_ret
        exact ⟨rfl, (HBW.out.then_ hb7).then_ hb9⟩
      · have hra : (ra == 0) = true := by rw [HRA.out, ha]
        obtain ⟨hp2, hpl, hpk⟩ := HKF.out ha
        clear ha HKF HRA
        obtain ⟨pl, pe⟩ := pv
        dsimp only at hp2 hpl hpk HPK
        subst hp2
        have HPL := Lib.hid hpl
        have HPKK := Lib.hid hpk
        clear hpl hpk
        go_wp2_with fail
        refine (HSR.out _ HBW.out).mono ?_
        rintro e w7 ⟨rfl, hb7⟩
        have k1 := hb7.c l1
        go_wp2_with (go_at_call 17; refine (mnum_any _ _).mono ?_; rintro e w' ⟨rfl, rfl⟩)
        refine (HPK.out _ (HBW.out.then_ hb7) hk1000).mono ?_
        rintro e w8 ⟨v, rfl, hv, hb8⟩
        obtain ⟨Av, cv, rfl, hcv, hmv, hiv⟩ := hv
        have k2 := hb8.c k1
        have HIV := Lib.hid hiv
        have hpI : (pl.length : Int) ≤ 9223372036854775807 := by unfold maxLen at hmv; omega
        have HBZ := Lib.hid ((HBW.out.then_ hb7).then_ hb8)
        have hpk2 : ((pl.length : Int) == key.length) = true := by rw [HPL.out]; simp
        clear hiv hcv hmv hb7 hb8 k1
        go_wp2_with fail
        go_loop [11] (fun i => ∃ j : Nat, j ≤ pl.length ∧ i = .int .i64 j) (fun i => pl.length - (intOf i).toNat)
        case atStart => exact ⟨0, Nat.zero_le _, rfl⟩
        case round =>
          obtain ⟨j, hj, rfl⟩ := hrel
          by_cases hlt : j < pl.length
          · obtain ⟨y, hy⟩ : ∃ y, pl[j]? = some y := ⟨_, List.getElem?_eq_getElem hlt⟩
            obtain ⟨bv, ov, rfl, hiv⟩ := HIV.out (by omega)
            have p0 := (hiv j y hy).1
            have hy0 : (y.k == 0) = false := by simpa using HPKK.out y (List.mem_of_getElem? hy)
            have hjI : (j : Int) < pl.length := by omega
            clear hy hiv
            go_wp2_with fail
            go_round
            case rel => exact ⟨j + 1, by omega, by go_num⟩
            case measure => simp [intOf]; omega
          · obtain rfl : j = pl.length := by omega
            clear hlt hj
            go_wp2_with (go_at_call 17; refine (mnum_any _ _).mono ?_; rintro e w' ⟨rfl, rfl⟩)
            refine (HW.out _ HBZ.out).mono ?_
            rintro e w9 ⟨rfl, hb9⟩
            go_wp2_with fail
            go_ret
            exact ⟨rfl, HBZ.out.then_ hb9⟩
end Go.Proofs.YtkklmflclmgjeaaGreatDoor
