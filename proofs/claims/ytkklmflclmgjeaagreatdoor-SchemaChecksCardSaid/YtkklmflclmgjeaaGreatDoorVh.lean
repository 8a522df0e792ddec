/-
  SchemaChecks, its walk.
-/
import Derived.Test.YtkklmflclmgjeaaGreatDoorVf
import Derived.Test.YtkklmflclmgjeaaGreatDoorVg
import Derived.Test.YtkklmflclmgjeaaGreatDoorSy
import Derived.Test.YtkklmflclmgjeaaGreatDoorSw
set_option linter.unusedVariables false
set_option linter.unusedSimpArgs false
set_option linter.unusedVariables false
set_option linter.unusedSimpArgs false
namespace Go.Proofs.YtkklmflclmgjeaaGreatDoor
open Go.RowKit Go.Shelf Go.Lib
attribute [local go_sem] Oper.semAt_some

theorem eql_nilSets (f : Fn) (a b : Array Value) (w : World) : (binOp .eql 58 (.func f a b) .nilFunc).run Tryz.prog w = .ok (.bool false) w := by kernel_rfl
theorem Bel.of_alloc' {w W : World} {o : Obj} {b : Nat} (h : (w.alloc o).grownBy W (some b)) (hb : w.heap.size ≤ b) : Bel w W :=
  (((Below.refl _ w).alloc (Nat.le_refl _) o)).grown h (by simp) (fun j e => by cases e; exact hb)
theorem wp_cutQ {P : Program} {c : Code} {Q Q' : Exit → Act → World → Prop} {a : Act} {w : World} (h : c.wp P Q' a w) (k : ∀ e a' V, Q' e a' V → Q e a' V) : c.wp P Q a w := Code.wp_mono k h
theorem zip_at {L : List (List Int)} {k : Nat} {x : List Int × Nat} (h : L.zipIdx[k]? = some x) : ∃ l, L[k]? = some l ∧ x = (l, k) := by
  rw [List.getElem?_zipIdx] at h
  cases hl : L[k]? with
  | none => rw [hl] at h; cases h
  | some l => rw [hl] at h; simp at h; exact ⟨l, rfl, h.symm⟩
set_option maxRecDepth 100000 in
set_option maxHeartbeats 40000000 in
theorem mChecks_any (vc vk vu : Value) (cols : List Col) (key : List Int) (uq : List (List Int)) (nm : ByteArray) (many : Int) (w : World) (hg : ErrType w) (hc : ColsAt w vc cols) (hk : IntsAt w vk key) (hu : ListsAt w vu uq)
    (hnm : ∀ c ∈ cols, c.name.size ≤ maxLen) (hnz : nm.size ≤ maxLen) : Calls Tryz.prog 8 #[.agg #[vc, vk, vu], .string nm, .int .i64 many] w fun e w' => e = .returned (.bool true) ∧ Bel w w' := by
  have hnmI : ∀ c ∈ cols, c.name.size ≤ 9223372036854775807 := fun c h => by have := hnm c h; unfold maxLen at this; omega
  have hnzI : (nm.size : Int) ≤ 9223372036854775807 := by unfold maxLen at hnz; omega
  have HFW := Lib.hid (fun V (hb : Bel w V) => mfew_any vc vk vu cols key uq V (hc.bel hb) (hk.bel hb) (hu.bel hb) hnm)
  have HW := Lib.hid (fun V (hb : Bel w V) => mworks_any V (hg.bel hb))
  have HTS := Lib.hid (fun V (hb : Bel w V) (hm : uq.length ≤ 900) => tSets_any vc vk vu cols key uq V (hc.bel hb) (hk.bel hb) (hu.bel hb) hnmI hm)
  have HPL := Lib.hid (fun V (hb : Bel w V) => scPlace_any vc vk vu cols nm V (hc.bel hb))
  have HCK := Lib.hid (fun V (hb : Bel w V) => scCheck_any vc vk vu cols key uq V (hc.bel hb) (hk.bel hb) (hu.bel hb))
  have HTR := Lib.hid (fun V (hb : Bel w V) => tRight_any vc vk vu cols key uq V (hc.bel hb) (hk.bel hb) (hu.bel hb) hnmI)
  have HTP := Lib.hid (fun V (hb : Bel w V) => tPlace_any vc vk vu cols nm V (hc.bel hb))
  have HSQ := Lib.hid (And.intro hc (And.intro hk hu))
  have hnf := eql_nilSets
  obtain ⟨W0, hW0⟩ : ∃ W0, W0 = ((w.alloc (.cells #[vc, vk, vu] 26)).alloc (.cells #[.int .i64 many] 3)).alloc (.cells #[.bool false] 4) := ⟨_, rfl⟩
  have HB0 : Hid (Bel w W0) := by show Bel w W0; rw [hW0]; exact (((Bel.refl w).alloc _).alloc _).alloc _
  have HCL : Hid (∀ V, Bel W0 V → (V.cell? ⟨w.heap.size, 0, none⟩ = some vc ∧ V.cell? ⟨w.heap.size, 1, none⟩ = some vk ∧ V.cell? ⟨w.heap.size, 2, none⟩ = some vu) ∧ V.cell? ⟨w.heap.size + 1, 0, none⟩ = some (.int .i64 many) ∧ V.cell? ⟨w.heap.size + 1 + 1, 0, none⟩ = some (.bool false) ∧ V.frozen? ⟨w.heap.size + 1 + 1, 0, none⟩ = false ∧ w.heap.size + 3 ≤ V.heap.size) := fun V h => by
    have hs := h.size
    have hf := Below.frozen h (p := ⟨w.heap.size + 1 + 1, 0, none⟩) (by rw [hW0]; simp)
    rw [hW0] at h hs hf
    exact ⟨⟨h.c (by go_simp), h.c (by go_simp), h.c (by go_simp)⟩, h.c (by go_simp), h.c (by go_simp), hf.trans (by go_simp), by simpa using hs⟩
  clear hg hc hk hu hnm hnz hnmI
  cases hf : fewB cols key uq
  case false =>
    rw [hf] at HFW
    clear hf
    refine calls_of_wp_marks 12 Tryz.func8 rfl ?_
    simp only [Tryz.ntmps8, List.size_toArray, List.length_cons, List.length_nil, Nat.reduceAdd, Nat.reduceSub, Array.replicate_succ, Array.replicate_zero, List.push_toArray, List.append_toArray, List.nil_append, List.cons_append]
    go_wp2_with fail
    rw [← hW0]
    refine (HFW.out _ HB0.out).mono ?_
    rintro e w4 ⟨rfl, hb4⟩
    go_wp2_with fail
    refine (HW.out _ (HB0.out.then_ hb4)).mono ?_
    rintro e w9 ⟨rfl, hb9⟩
    obtain ⟨-, -, r1, r2, -⟩ := HCL.out _ (hb4.then_ hb9)
    go_wp2
    refine leavesM_nil ?_ ⟨rfl, ?_⟩
    · have hc : (w9.setCell ⟨w.heap.size + 1 + 1, 0, none⟩ (.bool true)).cell? ⟨w.heap.size + 1 + 1, 0, none⟩ = some (.bool true) := by go_simp
      simp [results, Tryz.results8, go_sem, hc]
    · exact ((HB0.out.then_ hb4).then_ hb9).setCell (by simp; omega) _
  have huq : uq.length ≤ 900 ∧ key.length ≤ 1000 ∧ ∀ l ∈ uq, l.length ≤ 1000 := by
    unfold fewB at hf
    rw [Bool.and_eq_true, Bool.and_eq_true] at hf
    have h1 := of_decide_eq_true hf.1
    refine ⟨by omega, by omega, fun l hl => ?_⟩
    have := of_decide_eq_true (List.all_eq_true.1 hf.2.2 l hl)
    omega
  have HUQ := Lib.hid huq
  rw [hf] at HFW
  clear hf huq
  by_cases hn40 : 40 < nm.size
  · have hnb : (40 : Int) < nm.size := by omega
    refine calls_of_wp_marks 12 Tryz.func8 rfl ?_
    simp only [Tryz.ntmps8, List.size_toArray, List.length_cons, List.length_nil, Nat.reduceAdd, Nat.reduceSub, Array.replicate_succ, Array.replicate_zero, List.push_toArray, List.append_toArray, List.nil_append, List.cons_append]
    go_wp2_with fail
    rw [← hW0]
    refine (HFW.out _ HB0.out).mono ?_
    rintro e w4 ⟨rfl, hb4⟩
    go_wp2_with fail
    refine (HW.out _ (HB0.out.then_ hb4)).mono ?_
    rintro e w9 ⟨rfl, hb9⟩
    obtain ⟨-, -, r1, r2, -⟩ := HCL.out _ (hb4.then_ hb9)
    go_wp2
    refine leavesM_nil ?_ ⟨rfl, ?_⟩
    · have hc : (w9.setCell ⟨w.heap.size + 1 + 1, 0, none⟩ (.bool true)).cell? ⟨w.heap.size + 1 + 1, 0, none⟩ = some (.bool true) := by go_simp
      simp [results, Tryz.results8, go_sem, hc]
    · exact ((HB0.out.then_ hb4).then_ hb9).setCell (by simp; omega) _
  have hnb : decide ((40 : Int) < nm.size) = false := by simp; omega
  clear hn40
  obtain ⟨L, hL⟩ : ∃ L, L = setsL cols key uq := ⟨_, rfl⟩
  rw [← hL] at HTS
  have HL := Lib.hid hL
  clear hL
  refine calls_of_wp_marks 12 Tryz.func8 rfl ?_
  simp only [Tryz.ntmps8, List.size_toArray, List.length_cons, List.length_nil, Nat.reduceAdd, Nat.reduceSub, Array.replicate_succ, Array.replicate_zero, List.push_toArray, List.append_toArray, List.nil_append, List.cons_append]
  go_wp2_with fail
  rw [← hW0]
  clear hW0
  refine (HFW.out _ HB0.out).mono ?_
  rintro e w4 ⟨rfl, hb4⟩
  obtain ⟨⟨a0, a1, a2⟩, -, -, -, -⟩ := HCL.out _ hb4
  have HB4 := Lib.hid (HB0.out.then_ hb4)
  go_wp2_with fail
  refine (HTS.out _ HB4.out HUQ.out.1).mono ?_
  rintro e w5 ⟨v, rfl, hv, hb5⟩
  clear a0 a1 a2
  obtain ⟨⟨a0, a1, a2⟩, -, -, -, hs5⟩ := HCL.out _ (hb4.then_ hb5)
  have HV := Lib.hid hv
  obtain ⟨Av, cv, rfl, -⟩ := hv
  have hal : Bel w5 (w5.alloc (.cells #[.slice Av L.length cv] 24)) := (Bel.refl w5).alloc _
  have HB5 := Lib.hid ((HB4.out.then_ hb5).then_ hal)
  have HC5 := Lib.hid ((hb4.then_ hb5).then_ hal)
  have hw5 : w.heap.size < w5.heap.size := by omega
  have HWT : Hid (∀ V, Bel (w5.alloc (.cells #[.slice Av L.length cv] 24)) V → V.cell? ⟨w5.heap.size, 0, none⟩ = some (.slice Av L.length cv)) := fun V h => h.c (by go_simp)
  clear hb5 hb4 hal
  go_wp2_with fail
  refine (HPL.out _ HB5.out).mono ?_
  rintro e w6 ⟨⟨i, rfl, hi⟩, hb6⟩
  have HI := Lib.hid hi
  obtain ⟨at_, hat⟩ : ∃ at_, at_ = (if 0 ≤ i then i else 0) := ⟨_, rfl⟩
  obtain ⟨is_, his⟩ : ∃ is_, is_ = decide (0 ≤ i) := ⟨_, rfl⟩
  rw [← hat, ← his]
  have HAT := Lib.hid hat
  have HIS := Lib.hid his
  clear hat his a0 a1 a2
  obtain ⟨⟨a0, a1, a2⟩, -, -, -, hs6⟩ := HCL.out _ (HC5.out.then_ hb6)
  go_wp2_with fail
  refine (scSets_any _ _ _ _).mono ?_
  rintro e w' ⟨rfl, rfl⟩
  obtain ⟨W7, hW7⟩ : ∃ W7, W7 = w6.alloc (.cells #[vc, vk, vu] 26) := ⟨_, rfl⟩
  have hb7 : Bel w6 W7 := by rw [hW7]; exact (Bel.refl w6).alloc _
  have e0 : W7.cell? ⟨w6.heap.size, 0, none⟩ = some vc := by rw [hW7]; go_simp
  have e1 : W7.cell? ⟨w6.heap.size, 1, none⟩ = some vk := by rw [hW7]; go_simp
  have e2 : W7.cell? ⟨w6.heap.size, 2, none⟩ = some vu := by rw [hW7]; go_simp
  have hs7 : W7.heap.size = w6.heap.size + 1 := by rw [hW7]; simp
  rw [← hW7]
  have HE : Hid (W7.cell? ⟨w6.heap.size, 0, none⟩ = some vc ∧ W7.cell? ⟨w6.heap.size, 1, none⟩ = some vk ∧ W7.cell? ⟨w6.heap.size, 2, none⟩ = some vu ∧ W7.heap.size = w6.heap.size + 1) := ⟨e0, e1, e2, hs7⟩
  have HB7 := Lib.hid ((HB5.out.then_ hb6).then_ hb7)
  have HC7 := Lib.hid ((HC5.out.then_ hb6).then_ hb7)
  have HD7 := Lib.hid (hb6.then_ hb7)
  have h56 : w5.heap.size < w6.heap.size := by have := hb6.size; simp at this; omega
  have HTP2 : Hid (∀ V, Bel w V → Calls Tryz.prog 32 #[.agg #[vc, vk, vu], .string nm] V fun e w' => e = .returned (.int .i64 i) ∧ Bel V w') := fun V hb => (HTP.out V hb).mono fun e w' ⟨⟨j, he, hj⟩, hbb⟩ => ⟨by rw [he, hj.same HI.out], hbb⟩
  clear hW7 hb6 hb7 e0 e1 e2 hs7 a0 a1 a2 HTP hi
  have hS : ∀ V, Bel W7 V → (fun V : World => Bel W7 V ∧ V.cell? ⟨w.heap.size, 0, none⟩ = some vc ∧ V.cell? ⟨w.heap.size, 1, none⟩ = some vk ∧ V.cell? ⟨w.heap.size, 2, none⟩ = some vu) V := fun V h => ⟨h, (HCL.out _ (HC7.out.then_ h)).1⟩
  go_wp2_with fail
  refine wp_cutQ (Q' := fun e a' V => ∃ z34 z35 z36 z37 z38 z39 z40 z41 z42 z43 z44 z45 z46 z47 z48 z49 z50 z51 z52 z53 z54 z55 z56 z57 z58 z59 z60 z61 z62 z63 z64 z65 z66 z67 z68 z69 z70 : Value, e = .normal ∧ a' = { tmps := #[.agg #[vc, vk, vu], .string nm, .int .i64 many, .pointer (some ⟨w.heap.size, 0, none⟩), undef, .pointer (some ⟨w.heap.size + 1, 0, none⟩), .pointer (some ⟨w.heap.size + 1 + 1, 0, none⟩), .pointer (some ⟨w5.heap.size, 0, none⟩), .int .i64 at_, .bool is_, .func (.func 66) #[] #[.pointer (some ⟨w6.heap.size, 0, none⟩)], undef, undef, undef, undef, .agg #[vc, vk, vu], .bool true, .bool false, .bool false, .string nm, .int .i64 nm.size, .bool false, .bool false, undef, .agg #[vc, vk, vu], .slice Av L.length cv, .tuple #[.int .i64 at_, .bool is_], .agg #[vc, vk, vu], .string nm, .tuple #[.int .i64 at_, .bool is_], .int .i64 at_, .bool is_, .agg #[vc, vk, vu], .func (.func 66) #[] #[.pointer (some ⟨w6.heap.size, 0, none⟩)], z34, z35, z36, z37, z38, z39, z40, z41, z42, z43, z44, z45, z46, z47, z48, z49, z50, z51, z52, z53, z54, z55, z56, z57, z58, z59, z60, z61, z62, z63, z64, z65, z66, z67, z68, z69, z70, .bool false, undef, undef, undef, undef, undef, undef, undef, undef, undef, undef, undef, undef, undef, undef, undef, undef, undef, undef, undef, undef, undef, undef, undef, undef, undef, undef, undef, undef, undef, undef, undef, undef, undef, undef, undef, undef, undef, undef, undef, undef, undef, undef, undef, undef, undef, undef, undef, undef, undef, undef, undef, undef, undef, undef, undef, undef, undef], defers := [] } ∧ Bel W7 V) ?_ ?_
  · clear HFW HW HTS HPL HSQ HB0 HCL HUQ HL HV HB4 HB5 HC5 HWT HC7 HD7 HE hs5 hs6 hw5 h56 hnb hnzI
    cases hr : rightS cols key uq
    · rw [hr] at HCK HTR
      simp only [Bool.false_eq_true, if_false] at HCK
      clear hr
      rcases HI.out with ⟨rfl, -⟩ | ⟨k, x, rfl, -⟩
      · obtain rfl : at_ = 0 := HAT.out
        obtain rfl : is_ = false := HIS.out
        refine wp_region_noPanic ?_
        refine wp_region_held_drew (S := (fun V : World => Bel W7 V ∧ V.cell? ⟨w.heap.size, 0, none⟩ = some vc ∧ V.cell? ⟨w.heap.size, 1, none⟩ = some vk ∧ V.cell? ⟨w.heap.size, 2, none⟩ = some vu)) (by kernel_rfl) ?_ (fun hHr1_0 => ?_)
        · (try dsimp only); (first | assumption | exact hS _ (Bel.refl _).drew | exact hS _ (Bel.then_ (And.left (by assumption)) hb8))
        refine wpAnyH_take (i := 0) (oi := _) (v := ?vr1_1_0) rfl (by kernel_rfl) (by kernel_rfl) (by kernel_rfl) ?hqr1_1_0 (Or.inl ⟨by kernel_rfl, ?hyr1_1_0⟩) (by assumption) ?restr1_1_0
        case hqr1_1_0 => exact fun _ _ _ h => h
        case hyr1_1_0 => (intro w hSw; (try dsimp only at hSw); go_simp; try with_reducible rfl)
        try simp only [Act.put, List.getElem_toArray, List.getElem_cons_succ, List.getElem_cons_zero, List.setIfInBounds_toArray, List.set_cons_zero, List.set_cons_succ]
        refine wpAnyH_take (i := 1) (oi := _) (v := ?vr1_1_1) rfl (by kernel_rfl) (by kernel_rfl) (by kernel_rfl) ?hqr1_1_1 (Or.inl ⟨by kernel_rfl, ?hyr1_1_1⟩) (by assumption) ?restr1_1_1
        case hqr1_1_1 => exact fun _ _ _ h => h
        case hyr1_1_1 => (intro w hSw; (try dsimp only at hSw); go_simp; try with_reducible rfl)
        try simp only [Act.put, List.getElem_toArray, List.getElem_cons_succ, List.getElem_cons_zero, List.setIfInBounds_toArray, List.set_cons_zero, List.set_cons_succ]
        refine wpAnyH_take (i := 2) (oi := _) (v := ?vr1_1_2) rfl (by kernel_rfl) (by kernel_rfl) (by kernel_rfl) ?hqr1_1_2 (Or.inl ⟨by kernel_rfl, ?hyr1_1_2⟩) (by assumption) ?restr1_1_2
        case hqr1_1_2 => exact fun _ _ _ h => h
        case hyr1_1_2 => (intro w hSw; (try dsimp only at hSw); go_simp; try with_reducible rfl)
        try simp only [Act.put, List.getElem_toArray, List.getElem_cons_succ, List.getElem_cons_zero, List.setIfInBounds_toArray, List.set_cons_zero, List.set_cons_succ]
        refine wpAnyH_take (i := 3) (oi := _) (v := ?vr1_1_3) rfl (by kernel_rfl) (by kernel_rfl) (by kernel_rfl) ?hqr1_1_3 (Or.inl ⟨by kernel_rfl, ?hyr1_1_3⟩) (by assumption) ?restr1_1_3
        case hqr1_1_3 => exact fun _ _ _ h => h
        case hyr1_1_3 => (intro w hSw; (try dsimp only at hSw); go_simp; try with_reducible rfl)
        try simp only [Act.put, List.getElem_toArray, List.getElem_cons_succ, List.getElem_cons_zero, List.setIfInBounds_toArray, List.set_cons_zero, List.set_cons_succ]
        refine wpAnyH_take (i := 7) (oi := _) (v := ?vr1_1_7) rfl (by kernel_rfl) (by kernel_rfl) (by kernel_rfl) ?hqr1_1_7 (Or.inl ⟨by kernel_rfl, ?hyr1_1_7⟩) (by assumption) ?restr1_1_7
        case hqr1_1_7 => exact fun _ _ _ h => h
        case hyr1_1_7 => (intro w hSw; (try dsimp only at hSw); go_simp; try with_reducible rfl)
        try simp only [Act.put, List.getElem_toArray, List.getElem_cons_succ, List.getElem_cons_zero, List.setIfInBounds_toArray, List.set_cons_zero, List.set_cons_succ]
        refine wpAnyH_ready (rs := [4]) (by kernel_rfl) (by simp) ?_
        refine AllReadyH.cons (o := _) rfl (fun K hK => ?_) AllReadyH.nil
        go_simp
        (go_at_call 25; refine (HCK.out _ (HB7.out.then_ (And.left (by assumption)))).mono ?_; rintro e w8 ⟨rfl, hb8⟩)
        try (go_wp2_with fail)
        refine hK.out _ _ ?_ (fun hHr1_1 => ?_)
        · (try dsimp only); (first | assumption | exact hS _ (Bel.refl _).drew | exact hS _ (Bel.then_ (And.left (by assumption)) hb8))
        clear hK K hHr1_0
        try simp only [Act.put, List.getElem_toArray, List.getElem_cons_succ, List.getElem_cons_zero, List.setIfInBounds_toArray, List.set_cons_zero, List.set_cons_succ]
        refine wpAnyH_ready (rs := [5]) (by kernel_rfl) (by simp) ?_
        refine AllReadyH.cons (o := _) rfl (fun K hK => ?_) AllReadyH.nil
        go_simp
        (go_at_call 17; refine (mnum_any _ _).mono ?_; rintro e w' ⟨rfl, rfl⟩)
        try (go_wp2_with fail)
        refine hK.out _ _ ?_ (fun hHr1_2 => ?_)
        · (try dsimp only); (first | assumption | exact hS _ (Bel.refl _).drew | exact hS _ (Bel.then_ (And.left (by assumption)) hb8))
        clear hK K hHr1_1
        try simp only [Act.put, List.getElem_toArray, List.getElem_cons_succ, List.getElem_cons_zero, List.setIfInBounds_toArray, List.set_cons_zero, List.set_cons_succ]
        refine wpAnyH_take (i := 6) (oi := _) (v := ?vr1_1_6) rfl (by kernel_rfl) (by kernel_rfl) (by kernel_rfl) ?hqr1_1_6 (Or.inl ⟨by kernel_rfl, ?hyr1_1_6⟩) (by assumption) ?restr1_1_6
        case hqr1_1_6 => exact fun _ _ _ h => h
        case hyr1_1_6 => (intro w hSw; (try dsimp only at hSw); go_simp; try with_reducible rfl)
        try simp only [Act.put, List.getElem_toArray, List.getElem_cons_succ, List.getElem_cons_zero, List.setIfInBounds_toArray, List.set_cons_zero, List.set_cons_succ]
        refine wpAnyH_ready (rs := [8]) (by kernel_rfl) (by simp) ?_
        refine AllReadyH.cons (o := _) rfl (fun K hK => ?_) AllReadyH.nil
        go_simp
        (go_at_call 31; refine (HTR.out _ (HB7.out.then_ (And.left (by assumption)))).mono ?_; rintro e w8 ⟨rfl, hb8⟩)
        try (go_wp2_with fail)
        refine hK.out _ _ ?_ (fun hHr1_3 => ?_)
        · (try dsimp only); (first | assumption | exact hS _ (Bel.refl _).drew | exact hS _ (Bel.then_ (And.left (by assumption)) hb8))
        clear hK K hHr1_2
        try simp only [Act.put, List.getElem_toArray, List.getElem_cons_succ, List.getElem_cons_zero, List.setIfInBounds_toArray, List.set_cons_zero, List.set_cons_succ]
        refine wpAnyH_take (i := 9) (oi := _) (v := ?vr1_1_9) rfl (by kernel_rfl) (by kernel_rfl) (by kernel_rfl) ?hqr1_1_9 (Or.inl ⟨by kernel_rfl, ?hyr1_1_9⟩) (by assumption) ?restr1_1_9
        case hqr1_1_9 => exact fun _ _ _ h => h
        case hyr1_1_9 => (intro w hSw; (try dsimp only at hSw); go_simp; try with_reducible rfl)
        try simp only [Act.put, List.getElem_toArray, List.getElem_cons_succ, List.getElem_cons_zero, List.setIfInBounds_toArray, List.set_cons_zero, List.set_cons_succ]
        refine wpAnyH_take (i := 10) (oi := _) (v := ?vr1_1_10) rfl (by kernel_rfl) (by kernel_rfl) (by kernel_rfl) ?hqr1_1_10 (Or.inl ⟨by kernel_rfl, ?hyr1_1_10⟩) (by assumption) ?restr1_1_10
        case hqr1_1_10 => exact fun _ _ _ h => h
        case hyr1_1_10 => (intro w hSw; (try dsimp only at hSw); go_simp; try with_reducible rfl)
        try simp only [Act.put, List.getElem_toArray, List.getElem_cons_succ, List.getElem_cons_zero, List.setIfInBounds_toArray, List.set_cons_zero, List.set_cons_succ]
        refine wpAnyH_take (i := 11) (oi := _) (v := ?vr1_1_11) rfl (by kernel_rfl) (by kernel_rfl) (by kernel_rfl) ?hqr1_1_11 (Or.inl ⟨by kernel_rfl, ?hyr1_1_11⟩) (by assumption) ?restr1_1_11
        case hqr1_1_11 => exact fun _ _ _ h => h
        case hyr1_1_11 => (intro w hSw; (try dsimp only at hSw); go_simp; try with_reducible rfl)
        try simp only [Act.put, List.getElem_toArray, List.getElem_cons_succ, List.getElem_cons_zero, List.setIfInBounds_toArray, List.set_cons_zero, List.set_cons_succ]
        refine wpAnyH_take (i := 12) (oi := _) (v := ?vr1_1_12) rfl (by kernel_rfl) (by kernel_rfl) (by kernel_rfl) ?hqr1_1_12 (Or.inl ⟨by kernel_rfl, ?hyr1_1_12⟩) (by assumption) ?restr1_1_12
        case hqr1_1_12 => exact fun _ _ _ h => h
        case hyr1_1_12 => (intro w hSw; (try dsimp only at hSw); go_simp; try with_reducible rfl)
        try simp only [Act.put, List.getElem_toArray, List.getElem_cons_succ, List.getElem_cons_zero, List.setIfInBounds_toArray, List.set_cons_zero, List.set_cons_succ]
        refine wpAnyH_ready (rs := [13]) (by kernel_rfl) (by simp) ?_
        refine AllReadyH.cons (o := _) rfl (fun K hK => ?_) AllReadyH.nil
        go_simp
        (go_at_call 31; refine (HTR.out _ (HB7.out.then_ (And.left (by assumption)))).mono ?_; rintro e w8 ⟨rfl, hb8⟩)
        try (go_wp2_with fail)
        refine hK.out _ _ ?_ (fun hHr1_4 => ?_)
        · (try dsimp only); (first | assumption | exact hS _ (Bel.refl _).drew | exact hS _ (Bel.then_ (And.left (by assumption)) hb8))
        clear hK K hHr1_3
        try simp only [Act.put, List.getElem_toArray, List.getElem_cons_succ, List.getElem_cons_zero, List.setIfInBounds_toArray, List.set_cons_zero, List.set_cons_succ]
        refine wpAnyH_take (i := 14) (oi := _) (v := ?vr1_1_14) rfl (by kernel_rfl) (by kernel_rfl) (by kernel_rfl) ?hqr1_1_14 (Or.inl ⟨by kernel_rfl, ?hyr1_1_14⟩) (by assumption) ?restr1_1_14
        case hqr1_1_14 => exact fun _ _ _ h => h
        case hyr1_1_14 => (intro w hSw; (try dsimp only at hSw); go_simp; try with_reducible rfl)
        try simp only [Act.put, List.getElem_toArray, List.getElem_cons_succ, List.getElem_cons_zero, List.setIfInBounds_toArray, List.set_cons_zero, List.set_cons_succ]
        refine wpAnyH_take (i := 15) (oi := _) (v := ?vr1_1_15) rfl (by kernel_rfl) (by kernel_rfl) (by kernel_rfl) ?hqr1_1_15 (Or.inl ⟨by kernel_rfl, ?hyr1_1_15⟩) (by assumption) ?restr1_1_15
        case hqr1_1_15 => exact fun _ _ _ h => h
        case hyr1_1_15 => (intro w hSw; (try dsimp only at hSw); go_simp; try with_reducible rfl)
        try simp only [Act.put, List.getElem_toArray, List.getElem_cons_succ, List.getElem_cons_zero, List.setIfInBounds_toArray, List.set_cons_zero, List.set_cons_succ]
        refine wpAnyH_take (i := 16) (oi := _) (v := ?vr1_1_16) rfl (by kernel_rfl) (by kernel_rfl) (by kernel_rfl) ?hqr1_1_16 (Or.inl ⟨by kernel_rfl, ?hyr1_1_16⟩) (by assumption) ?restr1_1_16
        case hqr1_1_16 => exact fun _ _ _ h => h
        case hyr1_1_16 => (intro w hSw; (try dsimp only at hSw); go_simp; try with_reducible rfl)
        try simp only [Act.put, List.getElem_toArray, List.getElem_cons_succ, List.getElem_cons_zero, List.setIfInBounds_toArray, List.set_cons_zero, List.set_cons_succ]
        refine wpAnyH_ready (rs := [17]) (by kernel_rfl) (by simp) ?_
        refine AllReadyH.cons (o := _) rfl (fun K hK => ?_) AllReadyH.nil
        go_simp
        (go_at_call 25; refine (HCK.out _ (HB7.out.then_ (And.left (by assumption)))).mono ?_; rintro e w8 ⟨rfl, hb8⟩)
        try (go_wp2_with fail)
        refine hK.out _ _ ?_ (fun hHr1_5 => ?_)
        · (try dsimp only); (first | assumption | exact hS _ (Bel.refl _).drew | exact hS _ (Bel.then_ (And.left (by assumption)) hb8))
        clear hK K hHr1_4
        try simp only [Act.put, List.getElem_toArray, List.getElem_cons_succ, List.getElem_cons_zero, List.setIfInBounds_toArray, List.set_cons_zero, List.set_cons_succ]
        refine wpAnyH_ready (rs := [18]) (by kernel_rfl) (by simp) ?_
        refine AllReadyH.cons (o := _) rfl (fun K hK => ?_) AllReadyH.nil
        go_simp
        (go_at_call 17; refine (mnum_any _ _).mono ?_; rintro e w' ⟨rfl, rfl⟩)
        try (go_wp2_with fail)
        refine hK.out _ _ ?_ (fun hHr1_6 => ?_)
        · (try dsimp only); (first | assumption | exact hS _ (Bel.refl _).drew | exact hS _ (Bel.then_ (And.left (by assumption)) hb8))
        clear hK K hHr1_5
        try simp only [Act.put, List.getElem_toArray, List.getElem_cons_succ, List.getElem_cons_zero, List.setIfInBounds_toArray, List.set_cons_zero, List.set_cons_succ]
        refine wpAnyH_take (i := 19) (oi := _) (v := ?vr1_1_19) rfl (by kernel_rfl) (by kernel_rfl) (by kernel_rfl) ?hqr1_1_19 (Or.inl ⟨by kernel_rfl, ?hyr1_1_19⟩) (by assumption) ?restr1_1_19
        case hqr1_1_19 => exact fun _ _ _ h => h
        case hyr1_1_19 => (intro w hSw; (try dsimp only at hSw); go_simp; try with_reducible rfl)
        try simp only [Act.put, List.getElem_toArray, List.getElem_cons_succ, List.getElem_cons_zero, List.setIfInBounds_toArray, List.set_cons_zero, List.set_cons_succ]
        refine wpAnyH_take (i := 20) (oi := _) (v := ?vr1_1_20) rfl (by kernel_rfl) (by kernel_rfl) (by kernel_rfl) ?hqr1_1_20 (Or.inl ⟨by kernel_rfl, ?hyr1_1_20⟩) (by assumption) ?restr1_1_20
        case hqr1_1_20 => exact fun _ _ _ h => h
        case hyr1_1_20 => (intro w hSw; (try dsimp only at hSw); go_simp; try with_reducible rfl)
        try simp only [Act.put, List.getElem_toArray, List.getElem_cons_succ, List.getElem_cons_zero, List.setIfInBounds_toArray, List.set_cons_zero, List.set_cons_succ]
        refine wpAnyH_take (i := 21) (oi := _) (v := ?vr1_1_21) rfl (by kernel_rfl) (by kernel_rfl) (by kernel_rfl) ?hqr1_1_21 (Or.inl ⟨by kernel_rfl, ?hyr1_1_21⟩) (by assumption) ?restr1_1_21
        case hqr1_1_21 => exact fun _ _ _ h => h
        case hyr1_1_21 => (intro w hSw; (try dsimp only at hSw); go_simp; try with_reducible rfl)
        try simp only [Act.put, List.getElem_toArray, List.getElem_cons_succ, List.getElem_cons_zero, List.setIfInBounds_toArray, List.set_cons_zero, List.set_cons_succ]
        refine wpAnyH_take (i := 22) (oi := _) (v := ?vr1_1_22) rfl (by kernel_rfl) (by kernel_rfl) (by kernel_rfl) ?hqr1_1_22 (Or.inl ⟨by kernel_rfl, ?hyr1_1_22⟩) (by assumption) ?restr1_1_22
        case hqr1_1_22 => exact fun _ _ _ h => h
        case hyr1_1_22 => (intro w hSw; (try dsimp only at hSw); go_simp; try with_reducible rfl)
        try simp only [Act.put, List.getElem_toArray, List.getElem_cons_succ, List.getElem_cons_zero, List.setIfInBounds_toArray, List.set_cons_zero, List.set_cons_succ]
        refine wpAnyH_take (i := 23) (oi := _) (v := ?vr1_1_23) rfl (by kernel_rfl) (by kernel_rfl) (by kernel_rfl) ?hqr1_1_23 (Or.inl ⟨by kernel_rfl, ?hyr1_1_23⟩) (by assumption) ?restr1_1_23
        case hqr1_1_23 => exact fun _ _ _ h => h
        case hyr1_1_23 => (intro w hSw; (try dsimp only at hSw); go_simp; try with_reducible rfl)
        try simp only [Act.put, List.getElem_toArray, List.getElem_cons_succ, List.getElem_cons_zero, List.setIfInBounds_toArray, List.set_cons_zero, List.set_cons_succ]
        refine wpAnyH_take (i := 24) (oi := _) (v := ?vr1_1_24) rfl (by kernel_rfl) (by kernel_rfl) (by kernel_rfl) ?hqr1_1_24 (Or.inl ⟨by kernel_rfl, ?hyr1_1_24⟩) (by assumption) ?restr1_1_24
        case hqr1_1_24 => exact fun _ _ _ h => h
        case hyr1_1_24 => (intro w hSw; (try dsimp only at hSw); go_simp; try with_reducible rfl)
        try simp only [Act.put, List.getElem_toArray, List.getElem_cons_succ, List.getElem_cons_zero, List.setIfInBounds_toArray, List.set_cons_zero, List.set_cons_succ]
        refine wpAnyH_take (i := 25) (oi := _) (v := ?vr1_1_25) rfl (by kernel_rfl) (by kernel_rfl) (by kernel_rfl) ?hqr1_1_25 (Or.inl ⟨by kernel_rfl, ?hyr1_1_25⟩) (by assumption) ?restr1_1_25
        case hqr1_1_25 => exact fun _ _ _ h => h
        case hyr1_1_25 => (intro w hSw; (try dsimp only at hSw); go_simp; try with_reducible rfl)
        try simp only [Act.put, List.getElem_toArray, List.getElem_cons_succ, List.getElem_cons_zero, List.setIfInBounds_toArray, List.set_cons_zero, List.set_cons_succ]
        refine wpAnyH_ready (rs := [26]) (by kernel_rfl) (by simp) ?_
        refine AllReadyH.cons (o := _) rfl (fun K hK => ?_) AllReadyH.nil
        go_simp
        (go_at_call 32; refine (HTP2.out _ (HB7.out.then_ (And.left (by assumption)))).mono ?_; rintro e w8 ⟨rfl, hb8⟩)
        try (go_wp2_with fail)
        refine hK.out _ _ ?_ (fun hHr1_7 => ?_)
        · (try dsimp only); (first | assumption | exact hS _ (Bel.refl _).drew | exact hS _ (Bel.then_ (And.left (by assumption)) hb8))
        clear hK K hHr1_6
        try simp only [Act.put, List.getElem_toArray, List.getElem_cons_succ, List.getElem_cons_zero, List.setIfInBounds_toArray, List.set_cons_zero, List.set_cons_succ]
        refine wpAnyH_take (i := 27) (oi := _) (v := ?vr1_1_27) rfl (by kernel_rfl) (by kernel_rfl) (by kernel_rfl) ?hqr1_1_27 (Or.inl ⟨by kernel_rfl, ?hyr1_1_27⟩) (by assumption) ?restr1_1_27
        case hqr1_1_27 => exact fun _ _ _ h => h
        case hyr1_1_27 => (intro w hSw; (try dsimp only at hSw); go_simp; try with_reducible rfl)
        try simp only [Act.put, List.getElem_toArray, List.getElem_cons_succ, List.getElem_cons_zero, List.setIfInBounds_toArray, List.set_cons_zero, List.set_cons_succ]
        refine wpAnyH_take (i := 28) (oi := _) (v := ?vr1_1_28) rfl (by kernel_rfl) (by kernel_rfl) (by kernel_rfl) ?hqr1_1_28 (Or.inl ⟨by kernel_rfl, ?hyr1_1_28⟩) (by assumption) ?restr1_1_28
        case hqr1_1_28 => exact fun _ _ _ h => h
        case hyr1_1_28 => (intro w hSw; (try dsimp only at hSw); go_simp; try with_reducible rfl)
        try simp only [Act.put, List.getElem_toArray, List.getElem_cons_succ, List.getElem_cons_zero, List.setIfInBounds_toArray, List.set_cons_zero, List.set_cons_succ]
        refine wpAnyH_take (i := 29) (oi := _) (v := ?vr1_1_29) rfl (by kernel_rfl) (by kernel_rfl) (by kernel_rfl) ?hqr1_1_29 (Or.inl ⟨by kernel_rfl, ?hyr1_1_29⟩) (by assumption) ?restr1_1_29
        case hqr1_1_29 => exact fun _ _ _ h => h
        case hyr1_1_29 => (intro w hSw; (try dsimp only at hSw); go_simp; try with_reducible rfl)
        try simp only [Act.put, List.getElem_toArray, List.getElem_cons_succ, List.getElem_cons_zero, List.setIfInBounds_toArray, List.set_cons_zero, List.set_cons_succ]
        refine wpAnyH_take (i := 30) (oi := _) (v := ?vr1_1_30) rfl (by kernel_rfl) (by kernel_rfl) (by kernel_rfl) ?hqr1_1_30 (Or.inl ⟨by kernel_rfl, ?hyr1_1_30⟩) (by assumption) ?restr1_1_30
        case hqr1_1_30 => exact fun _ _ _ h => h
        case hyr1_1_30 => (intro w hSw; (try dsimp only at hSw); go_simp; try with_reducible rfl)
        try simp only [Act.put, List.getElem_toArray, List.getElem_cons_succ, List.getElem_cons_zero, List.setIfInBounds_toArray, List.set_cons_zero, List.set_cons_succ]
        refine wpAnyH_take (i := 31) (oi := _) (v := ?vr1_1_31) rfl (by kernel_rfl) (by kernel_rfl) (by kernel_rfl) ?hqr1_1_31 (Or.inl ⟨by kernel_rfl, ?hyr1_1_31⟩) (by assumption) ?restr1_1_31
        case hqr1_1_31 => exact fun _ _ _ h => h
        case hyr1_1_31 => (intro w hSw; (try dsimp only at hSw); go_simp; try with_reducible rfl)
        try simp only [Act.put, List.getElem_toArray, List.getElem_cons_succ, List.getElem_cons_zero, List.setIfInBounds_toArray, List.set_cons_zero, List.set_cons_succ]
        refine wpAnyH_take (i := 32) (oi := _) (v := ?vr1_1_32) rfl (by kernel_rfl) (by kernel_rfl) (by kernel_rfl) ?hqr1_1_32 (Or.inl ⟨by kernel_rfl, ?hyr1_1_32⟩) (by assumption) ?restr1_1_32
        case hqr1_1_32 => exact fun _ _ _ h => h
        case hyr1_1_32 => (intro w hSw; (try dsimp only at hSw); go_simp; try with_reducible rfl)
        try simp only [Act.put, List.getElem_toArray, List.getElem_cons_succ, List.getElem_cons_zero, List.setIfInBounds_toArray, List.set_cons_zero, List.set_cons_succ]
        refine wpAnyH_take (i := 33) (oi := _) (v := ?vr1_1_33) rfl (by kernel_rfl) (by kernel_rfl) (by kernel_rfl) ?hqr1_1_33 (Or.inl ⟨by kernel_rfl, ?hyr1_1_33⟩) (by assumption) ?restr1_1_33
        case hqr1_1_33 => exact fun _ _ _ h => h
        case hyr1_1_33 => (intro w hSw; (try dsimp only at hSw); go_simp; try with_reducible rfl)
        try simp only [Act.put, List.getElem_toArray, List.getElem_cons_succ, List.getElem_cons_zero, List.setIfInBounds_toArray, List.set_cons_zero, List.set_cons_succ]
        refine wpAnyH_ready (rs := [34]) (by kernel_rfl) (by simp) ?_
        refine AllReadyH.cons (o := _) rfl (fun K hK => ?_) AllReadyH.nil
        go_simp
        (go_at_call 32; refine (HTP2.out _ (HB7.out.then_ (And.left (by assumption)))).mono ?_; rintro e w8 ⟨rfl, hb8⟩)
        try (go_wp2_with fail)
        refine hK.out _ _ ?_ (fun hHr1_8 => ?_)
        · (try dsimp only); (first | assumption | exact hS _ (Bel.refl _).drew | exact hS _ (Bel.then_ (And.left (by assumption)) hb8))
        clear hK K hHr1_7
        try simp only [Act.put, List.getElem_toArray, List.getElem_cons_succ, List.getElem_cons_zero, List.setIfInBounds_toArray, List.set_cons_zero, List.set_cons_succ]
        refine wpAnyH_ready (rs := [35]) (by kernel_rfl) (by simp) ?_
        refine AllReadyH.cons (o := _) rfl (fun K hK => ?_) AllReadyH.nil
        go_simp
        refine hK.out _ _ ?_ (fun hHr1_9 => ?_)
        · (try dsimp only); (first | assumption | exact hS _ (Bel.refl _).drew | exact hS _ (Bel.then_ (And.left (by assumption)) hb8))
        clear hK K hHr1_8
        try simp only [Act.put, List.getElem_toArray, List.getElem_cons_succ, List.getElem_cons_zero, List.setIfInBounds_toArray, List.set_cons_zero, List.set_cons_succ]
        refine wpAnyH_take (i := 36) (oi := _) (v := ?vr1_1_36) rfl (by kernel_rfl) (by kernel_rfl) (by kernel_rfl) ?hqr1_1_36 (Or.inl ⟨by kernel_rfl, ?hyr1_1_36⟩) (by assumption) ?restr1_1_36
        case hqr1_1_36 => exact fun _ _ _ h => h
        case hyr1_1_36 => (intro w hSw; (try dsimp only at hSw); go_simp; try with_reducible rfl)
        try simp only [Act.put, List.getElem_toArray, List.getElem_cons_succ, List.getElem_cons_zero, List.setIfInBounds_toArray, List.set_cons_zero, List.set_cons_succ]
        refine wpAnyH_take (i := 37) (oi := _) (v := ?vr1_1_37) rfl (by kernel_rfl) (by kernel_rfl) (by kernel_rfl) ?hqr1_1_37 (Or.inl ⟨by kernel_rfl, ?hyr1_1_37⟩) (by assumption) ?restr1_1_37
        case hqr1_1_37 => exact fun _ _ _ h => h
        case hyr1_1_37 => (intro w hSw; (try dsimp only at hSw); go_simp; try with_reducible rfl)
        try simp only [Act.put, List.getElem_toArray, List.getElem_cons_succ, List.getElem_cons_zero, List.setIfInBounds_toArray, List.set_cons_zero, List.set_cons_succ]
        refine wpAnyH_done (by kernel_rfl) ?_ _
        refine NoPanic.normal ?_
        have hfin := And.left (by assumption)
        exact ⟨_, _, _, _, _, _, _, _, _, _, _, _, _, _, _, _, _, _, _, _, _, _, _, _, _, _, _, _, _, _, _, _, _, _, _, _, _, rfl, rfl, hfin⟩
      · have hk0 : (0 : Int) ≤ k := by omega
        obtain rfl : at_ = k := by rw [HAT.out, if_pos hk0]
        obtain rfl : is_ = true := by rw [HIS.out, decide_eq_true hk0]
        have hmk : (if 0 < k then (k : Int) else 0) = k := by split <;> omega
        have hkk : ((k : Int) != k) = false := by simp
        refine wp_region_noPanic ?_
        refine wp_region_held_drew (S := (fun V : World => Bel W7 V ∧ V.cell? ⟨w.heap.size, 0, none⟩ = some vc ∧ V.cell? ⟨w.heap.size, 1, none⟩ = some vk ∧ V.cell? ⟨w.heap.size, 2, none⟩ = some vu)) (by kernel_rfl) ?_ (fun hHr2_0 => ?_)
        · (try dsimp only); (first | assumption | exact hS _ (Bel.refl _).drew | exact hS _ (Bel.then_ (And.left (by assumption)) hb8))
        refine wpAnyH_take (i := 0) (oi := _) (v := ?vr2_1_0) rfl (by kernel_rfl) (by kernel_rfl) (by kernel_rfl) ?hqr2_1_0 (Or.inl ⟨by kernel_rfl, ?hyr2_1_0⟩) (by assumption) ?restr2_1_0
        case hqr2_1_0 => exact fun _ _ _ h => h
        case hyr2_1_0 => (intro w hSw; (try dsimp only at hSw); go_simp; try with_reducible rfl)
        try simp only [Act.put, List.getElem_toArray, List.getElem_cons_succ, List.getElem_cons_zero, List.setIfInBounds_toArray, List.set_cons_zero, List.set_cons_succ]
        refine wpAnyH_take (i := 1) (oi := _) (v := ?vr2_1_1) rfl (by kernel_rfl) (by kernel_rfl) (by kernel_rfl) ?hqr2_1_1 (Or.inl ⟨by kernel_rfl, ?hyr2_1_1⟩) (by assumption) ?restr2_1_1
        case hqr2_1_1 => exact fun _ _ _ h => h
        case hyr2_1_1 => (intro w hSw; (try dsimp only at hSw); go_simp; try with_reducible rfl)
        try simp only [Act.put, List.getElem_toArray, List.getElem_cons_succ, List.getElem_cons_zero, List.setIfInBounds_toArray, List.set_cons_zero, List.set_cons_succ]
        refine wpAnyH_take (i := 2) (oi := _) (v := ?vr2_1_2) rfl (by kernel_rfl) (by kernel_rfl) (by kernel_rfl) ?hqr2_1_2 (Or.inl ⟨by kernel_rfl, ?hyr2_1_2⟩) (by assumption) ?restr2_1_2
        case hqr2_1_2 => exact fun _ _ _ h => h
        case hyr2_1_2 => (intro w hSw; (try dsimp only at hSw); go_simp; try with_reducible rfl)
        try simp only [Act.put, List.getElem_toArray, List.getElem_cons_succ, List.getElem_cons_zero, List.setIfInBounds_toArray, List.set_cons_zero, List.set_cons_succ]
        refine wpAnyH_take (i := 3) (oi := _) (v := ?vr2_1_3) rfl (by kernel_rfl) (by kernel_rfl) (by kernel_rfl) ?hqr2_1_3 (Or.inl ⟨by kernel_rfl, ?hyr2_1_3⟩) (by assumption) ?restr2_1_3
        case hqr2_1_3 => exact fun _ _ _ h => h
        case hyr2_1_3 => (intro w hSw; (try dsimp only at hSw); go_simp; try with_reducible rfl)
        try simp only [Act.put, List.getElem_toArray, List.getElem_cons_succ, List.getElem_cons_zero, List.setIfInBounds_toArray, List.set_cons_zero, List.set_cons_succ]
        refine wpAnyH_take (i := 7) (oi := _) (v := ?vr2_1_7) rfl (by kernel_rfl) (by kernel_rfl) (by kernel_rfl) ?hqr2_1_7 (Or.inl ⟨by kernel_rfl, ?hyr2_1_7⟩) (by assumption) ?restr2_1_7
        case hqr2_1_7 => exact fun _ _ _ h => h
        case hyr2_1_7 => (intro w hSw; (try dsimp only at hSw); go_simp; try with_reducible rfl)
        try simp only [Act.put, List.getElem_toArray, List.getElem_cons_succ, List.getElem_cons_zero, List.setIfInBounds_toArray, List.set_cons_zero, List.set_cons_succ]
        refine wpAnyH_ready (rs := [4]) (by kernel_rfl) (by simp) ?_
        refine AllReadyH.cons (o := _) rfl (fun K hK => ?_) AllReadyH.nil
        go_simp
        (go_at_call 25; refine (HCK.out _ (HB7.out.then_ (And.left (by assumption)))).mono ?_; rintro e w8 ⟨rfl, hb8⟩)
        try (go_wp2_with fail)
        refine hK.out _ _ ?_ (fun hHr2_1 => ?_)
        · (try dsimp only); (first | assumption | exact hS _ (Bel.refl _).drew | exact hS _ (Bel.then_ (And.left (by assumption)) hb8))
        clear hK K hHr2_0
        try simp only [Act.put, List.getElem_toArray, List.getElem_cons_succ, List.getElem_cons_zero, List.setIfInBounds_toArray, List.set_cons_zero, List.set_cons_succ]
        refine wpAnyH_ready (rs := [5]) (by kernel_rfl) (by simp) ?_
        refine AllReadyH.cons (o := _) rfl (fun K hK => ?_) AllReadyH.nil
        go_simp
        (go_at_call 17; refine (mnum_any _ _).mono ?_; rintro e w' ⟨rfl, rfl⟩)
        try (go_wp2_with fail)
        refine hK.out _ _ ?_ (fun hHr2_2 => ?_)
        · (try dsimp only); (first | assumption | exact hS _ (Bel.refl _).drew | exact hS _ (Bel.then_ (And.left (by assumption)) hb8))
        clear hK K hHr2_1
        try simp only [Act.put, List.getElem_toArray, List.getElem_cons_succ, List.getElem_cons_zero, List.setIfInBounds_toArray, List.set_cons_zero, List.set_cons_succ]
        refine wpAnyH_take (i := 6) (oi := _) (v := ?vr2_1_6) rfl (by kernel_rfl) (by kernel_rfl) (by kernel_rfl) ?hqr2_1_6 (Or.inl ⟨by kernel_rfl, ?hyr2_1_6⟩) (by assumption) ?restr2_1_6
        case hqr2_1_6 => exact fun _ _ _ h => h
        case hyr2_1_6 => (intro w hSw; (try dsimp only at hSw); go_simp; try with_reducible rfl)
        try simp only [Act.put, List.getElem_toArray, List.getElem_cons_succ, List.getElem_cons_zero, List.setIfInBounds_toArray, List.set_cons_zero, List.set_cons_succ]
        refine wpAnyH_ready (rs := [8]) (by kernel_rfl) (by simp) ?_
        refine AllReadyH.cons (o := _) rfl (fun K hK => ?_) AllReadyH.nil
        go_simp
        (go_at_call 31; refine (HTR.out _ (HB7.out.then_ (And.left (by assumption)))).mono ?_; rintro e w8 ⟨rfl, hb8⟩)
        try (go_wp2_with fail)
        refine hK.out _ _ ?_ (fun hHr2_3 => ?_)
        · (try dsimp only); (first | assumption | exact hS _ (Bel.refl _).drew | exact hS _ (Bel.then_ (And.left (by assumption)) hb8))
        clear hK K hHr2_2
        try simp only [Act.put, List.getElem_toArray, List.getElem_cons_succ, List.getElem_cons_zero, List.setIfInBounds_toArray, List.set_cons_zero, List.set_cons_succ]
        refine wpAnyH_take (i := 9) (oi := _) (v := ?vr2_1_9) rfl (by kernel_rfl) (by kernel_rfl) (by kernel_rfl) ?hqr2_1_9 (Or.inl ⟨by kernel_rfl, ?hyr2_1_9⟩) (by assumption) ?restr2_1_9
        case hqr2_1_9 => exact fun _ _ _ h => h
        case hyr2_1_9 => (intro w hSw; (try dsimp only at hSw); go_simp; try with_reducible rfl)
        try simp only [Act.put, List.getElem_toArray, List.getElem_cons_succ, List.getElem_cons_zero, List.setIfInBounds_toArray, List.set_cons_zero, List.set_cons_succ]
        refine wpAnyH_take (i := 10) (oi := _) (v := ?vr2_1_10) rfl (by kernel_rfl) (by kernel_rfl) (by kernel_rfl) ?hqr2_1_10 (Or.inl ⟨by kernel_rfl, ?hyr2_1_10⟩) (by assumption) ?restr2_1_10
        case hqr2_1_10 => exact fun _ _ _ h => h
        case hyr2_1_10 => (intro w hSw; (try dsimp only at hSw); go_simp; try with_reducible rfl)
        try simp only [Act.put, List.getElem_toArray, List.getElem_cons_succ, List.getElem_cons_zero, List.setIfInBounds_toArray, List.set_cons_zero, List.set_cons_succ]
        refine wpAnyH_take (i := 11) (oi := _) (v := ?vr2_1_11) rfl (by kernel_rfl) (by kernel_rfl) (by kernel_rfl) ?hqr2_1_11 (Or.inl ⟨by kernel_rfl, ?hyr2_1_11⟩) (by assumption) ?restr2_1_11
        case hqr2_1_11 => exact fun _ _ _ h => h
        case hyr2_1_11 => (intro w hSw; (try dsimp only at hSw); go_simp; try with_reducible rfl)
        try simp only [Act.put, List.getElem_toArray, List.getElem_cons_succ, List.getElem_cons_zero, List.setIfInBounds_toArray, List.set_cons_zero, List.set_cons_succ]
        refine wpAnyH_take (i := 12) (oi := _) (v := ?vr2_1_12) rfl (by kernel_rfl) (by kernel_rfl) (by kernel_rfl) ?hqr2_1_12 (Or.inl ⟨by kernel_rfl, ?hyr2_1_12⟩) (by assumption) ?restr2_1_12
        case hqr2_1_12 => exact fun _ _ _ h => h
        case hyr2_1_12 => (intro w hSw; (try dsimp only at hSw); go_simp; try with_reducible rfl)
        try simp only [Act.put, List.getElem_toArray, List.getElem_cons_succ, List.getElem_cons_zero, List.setIfInBounds_toArray, List.set_cons_zero, List.set_cons_succ]
        refine wpAnyH_ready (rs := [13]) (by kernel_rfl) (by simp) ?_
        refine AllReadyH.cons (o := _) rfl (fun K hK => ?_) AllReadyH.nil
        go_simp
        (go_at_call 31; refine (HTR.out _ (HB7.out.then_ (And.left (by assumption)))).mono ?_; rintro e w8 ⟨rfl, hb8⟩)
        try (go_wp2_with fail)
        refine hK.out _ _ ?_ (fun hHr2_4 => ?_)
        · (try dsimp only); (first | assumption | exact hS _ (Bel.refl _).drew | exact hS _ (Bel.then_ (And.left (by assumption)) hb8))
        clear hK K hHr2_3
        try simp only [Act.put, List.getElem_toArray, List.getElem_cons_succ, List.getElem_cons_zero, List.setIfInBounds_toArray, List.set_cons_zero, List.set_cons_succ]
        refine wpAnyH_take (i := 14) (oi := _) (v := ?vr2_1_14) rfl (by kernel_rfl) (by kernel_rfl) (by kernel_rfl) ?hqr2_1_14 (Or.inl ⟨by kernel_rfl, ?hyr2_1_14⟩) (by assumption) ?restr2_1_14
        case hqr2_1_14 => exact fun _ _ _ h => h
        case hyr2_1_14 => (intro w hSw; (try dsimp only at hSw); go_simp; try with_reducible rfl)
        try simp only [Act.put, List.getElem_toArray, List.getElem_cons_succ, List.getElem_cons_zero, List.setIfInBounds_toArray, List.set_cons_zero, List.set_cons_succ]
        refine wpAnyH_take (i := 15) (oi := _) (v := ?vr2_1_15) rfl (by kernel_rfl) (by kernel_rfl) (by kernel_rfl) ?hqr2_1_15 (Or.inl ⟨by kernel_rfl, ?hyr2_1_15⟩) (by assumption) ?restr2_1_15
        case hqr2_1_15 => exact fun _ _ _ h => h
        case hyr2_1_15 => (intro w hSw; (try dsimp only at hSw); go_simp; try with_reducible rfl)
        try simp only [Act.put, List.getElem_toArray, List.getElem_cons_succ, List.getElem_cons_zero, List.setIfInBounds_toArray, List.set_cons_zero, List.set_cons_succ]
        refine wpAnyH_take (i := 16) (oi := _) (v := ?vr2_1_16) rfl (by kernel_rfl) (by kernel_rfl) (by kernel_rfl) ?hqr2_1_16 (Or.inl ⟨by kernel_rfl, ?hyr2_1_16⟩) (by assumption) ?restr2_1_16
        case hqr2_1_16 => exact fun _ _ _ h => h
        case hyr2_1_16 => (intro w hSw; (try dsimp only at hSw); go_simp; try with_reducible rfl)
        try simp only [Act.put, List.getElem_toArray, List.getElem_cons_succ, List.getElem_cons_zero, List.setIfInBounds_toArray, List.set_cons_zero, List.set_cons_succ]
        refine wpAnyH_ready (rs := [17]) (by kernel_rfl) (by simp) ?_
        refine AllReadyH.cons (o := _) rfl (fun K hK => ?_) AllReadyH.nil
        go_simp
        (go_at_call 25; refine (HCK.out _ (HB7.out.then_ (And.left (by assumption)))).mono ?_; rintro e w8 ⟨rfl, hb8⟩)
        try (go_wp2_with fail)
        refine hK.out _ _ ?_ (fun hHr2_5 => ?_)
        · (try dsimp only); (first | assumption | exact hS _ (Bel.refl _).drew | exact hS _ (Bel.then_ (And.left (by assumption)) hb8))
        clear hK K hHr2_4
        try simp only [Act.put, List.getElem_toArray, List.getElem_cons_succ, List.getElem_cons_zero, List.setIfInBounds_toArray, List.set_cons_zero, List.set_cons_succ]
        refine wpAnyH_ready (rs := [18]) (by kernel_rfl) (by simp) ?_
        refine AllReadyH.cons (o := _) rfl (fun K hK => ?_) AllReadyH.nil
        go_simp
        (go_at_call 17; refine (mnum_any _ _).mono ?_; rintro e w' ⟨rfl, rfl⟩)
        try (go_wp2_with fail)
        refine hK.out _ _ ?_ (fun hHr2_6 => ?_)
        · (try dsimp only); (first | assumption | exact hS _ (Bel.refl _).drew | exact hS _ (Bel.then_ (And.left (by assumption)) hb8))
        clear hK K hHr2_5
        try simp only [Act.put, List.getElem_toArray, List.getElem_cons_succ, List.getElem_cons_zero, List.setIfInBounds_toArray, List.set_cons_zero, List.set_cons_succ]
        refine wpAnyH_take (i := 19) (oi := _) (v := ?vr2_1_19) rfl (by kernel_rfl) (by kernel_rfl) (by kernel_rfl) ?hqr2_1_19 (Or.inl ⟨by kernel_rfl, ?hyr2_1_19⟩) (by assumption) ?restr2_1_19
        case hqr2_1_19 => exact fun _ _ _ h => h
        case hyr2_1_19 => (intro w hSw; (try dsimp only at hSw); go_simp; try with_reducible rfl)
        try simp only [Act.put, List.getElem_toArray, List.getElem_cons_succ, List.getElem_cons_zero, List.setIfInBounds_toArray, List.set_cons_zero, List.set_cons_succ]
        refine wpAnyH_take (i := 20) (oi := _) (v := ?vr2_1_20) rfl (by kernel_rfl) (by kernel_rfl) (by kernel_rfl) ?hqr2_1_20 (Or.inl ⟨by kernel_rfl, ?hyr2_1_20⟩) (by assumption) ?restr2_1_20
        case hqr2_1_20 => exact fun _ _ _ h => h
        case hyr2_1_20 => (intro w hSw; (try dsimp only at hSw); go_simp; try with_reducible rfl)
        try simp only [Act.put, List.getElem_toArray, List.getElem_cons_succ, List.getElem_cons_zero, List.setIfInBounds_toArray, List.set_cons_zero, List.set_cons_succ]
        refine wpAnyH_take (i := 21) (oi := _) (v := ?vr2_1_21) rfl (by kernel_rfl) (by kernel_rfl) (by kernel_rfl) ?hqr2_1_21 (Or.inl ⟨by kernel_rfl, ?hyr2_1_21⟩) (by assumption) ?restr2_1_21
        case hqr2_1_21 => exact fun _ _ _ h => h
        case hyr2_1_21 => (intro w hSw; (try dsimp only at hSw); go_simp; try with_reducible rfl)
        try simp only [Act.put, List.getElem_toArray, List.getElem_cons_succ, List.getElem_cons_zero, List.setIfInBounds_toArray, List.set_cons_zero, List.set_cons_succ]
        refine wpAnyH_take (i := 22) (oi := _) (v := ?vr2_1_22) rfl (by kernel_rfl) (by kernel_rfl) (by kernel_rfl) ?hqr2_1_22 (Or.inl ⟨by kernel_rfl, ?hyr2_1_22⟩) (by assumption) ?restr2_1_22
        case hqr2_1_22 => exact fun _ _ _ h => h
        case hyr2_1_22 => (intro w hSw; (try dsimp only at hSw); go_simp; try with_reducible rfl)
        try simp only [Act.put, List.getElem_toArray, List.getElem_cons_succ, List.getElem_cons_zero, List.setIfInBounds_toArray, List.set_cons_zero, List.set_cons_succ]
        refine wpAnyH_take (i := 23) (oi := _) (v := ?vr2_1_23) rfl (by kernel_rfl) (by kernel_rfl) (by kernel_rfl) ?hqr2_1_23 (Or.inl ⟨by kernel_rfl, ?hyr2_1_23⟩) (by assumption) ?restr2_1_23
        case hqr2_1_23 => exact fun _ _ _ h => h
        case hyr2_1_23 => (intro w hSw; (try dsimp only at hSw); go_simp; try with_reducible rfl)
        try simp only [Act.put, List.getElem_toArray, List.getElem_cons_succ, List.getElem_cons_zero, List.setIfInBounds_toArray, List.set_cons_zero, List.set_cons_succ]
        refine wpAnyH_take (i := 24) (oi := _) (v := ?vr2_1_24) rfl (by kernel_rfl) (by kernel_rfl) (by kernel_rfl) ?hqr2_1_24 (Or.inl ⟨by kernel_rfl, ?hyr2_1_24⟩) (by assumption) ?restr2_1_24
        case hqr2_1_24 => exact fun _ _ _ h => h
        case hyr2_1_24 => (intro w hSw; (try dsimp only at hSw); go_simp; try with_reducible rfl)
        try simp only [Act.put, List.getElem_toArray, List.getElem_cons_succ, List.getElem_cons_zero, List.setIfInBounds_toArray, List.set_cons_zero, List.set_cons_succ]
        refine wpAnyH_take (i := 25) (oi := _) (v := ?vr2_1_25) rfl (by kernel_rfl) (by kernel_rfl) (by kernel_rfl) ?hqr2_1_25 (Or.inl ⟨by kernel_rfl, ?hyr2_1_25⟩) (by assumption) ?restr2_1_25
        case hqr2_1_25 => exact fun _ _ _ h => h
        case hyr2_1_25 => (intro w hSw; (try dsimp only at hSw); go_simp; try with_reducible rfl)
        try simp only [Act.put, List.getElem_toArray, List.getElem_cons_succ, List.getElem_cons_zero, List.setIfInBounds_toArray, List.set_cons_zero, List.set_cons_succ]
        refine wpAnyH_ready (rs := [26]) (by kernel_rfl) (by simp) ?_
        refine AllReadyH.cons (o := _) rfl (fun K hK => ?_) AllReadyH.nil
        go_simp
        (go_at_call 32; refine (HTP2.out _ (HB7.out.then_ (And.left (by assumption)))).mono ?_; rintro e w8 ⟨rfl, hb8⟩)
        try (go_wp2_with fail)
        refine hK.out _ _ ?_ (fun hHr2_7 => ?_)
        · (try dsimp only); (first | assumption | exact hS _ (Bel.refl _).drew | exact hS _ (Bel.then_ (And.left (by assumption)) hb8))
        clear hK K hHr2_6
        try simp only [Act.put, List.getElem_toArray, List.getElem_cons_succ, List.getElem_cons_zero, List.setIfInBounds_toArray, List.set_cons_zero, List.set_cons_succ]
        refine wpAnyH_take (i := 27) (oi := _) (v := ?vr2_1_27) rfl (by kernel_rfl) (by kernel_rfl) (by kernel_rfl) ?hqr2_1_27 (Or.inl ⟨by kernel_rfl, ?hyr2_1_27⟩) (by assumption) ?restr2_1_27
        case hqr2_1_27 => exact fun _ _ _ h => h
        case hyr2_1_27 => (intro w hSw; (try dsimp only at hSw); go_simp; try with_reducible rfl)
        try simp only [Act.put, List.getElem_toArray, List.getElem_cons_succ, List.getElem_cons_zero, List.setIfInBounds_toArray, List.set_cons_zero, List.set_cons_succ]
        refine wpAnyH_take (i := 28) (oi := _) (v := ?vr2_1_28) rfl (by kernel_rfl) (by kernel_rfl) (by kernel_rfl) ?hqr2_1_28 (Or.inl ⟨by kernel_rfl, ?hyr2_1_28⟩) (by assumption) ?restr2_1_28
        case hqr2_1_28 => exact fun _ _ _ h => h
        case hyr2_1_28 => (intro w hSw; (try dsimp only at hSw); go_simp; try with_reducible rfl)
        try simp only [Act.put, List.getElem_toArray, List.getElem_cons_succ, List.getElem_cons_zero, List.setIfInBounds_toArray, List.set_cons_zero, List.set_cons_succ]
        refine wpAnyH_take (i := 29) (oi := _) (v := ?vr2_1_29) rfl (by kernel_rfl) (by kernel_rfl) (by kernel_rfl) ?hqr2_1_29 (Or.inl ⟨by kernel_rfl, ?hyr2_1_29⟩) (by assumption) ?restr2_1_29
        case hqr2_1_29 => exact fun _ _ _ h => h
        case hyr2_1_29 => (intro w hSw; (try dsimp only at hSw); go_simp; try with_reducible rfl)
        try simp only [Act.put, List.getElem_toArray, List.getElem_cons_succ, List.getElem_cons_zero, List.setIfInBounds_toArray, List.set_cons_zero, List.set_cons_succ]
        refine wpAnyH_take (i := 30) (oi := _) (v := ?vr2_1_30) rfl (by kernel_rfl) (by kernel_rfl) (by kernel_rfl) ?hqr2_1_30 (Or.inl ⟨by kernel_rfl, ?hyr2_1_30⟩) (by assumption) ?restr2_1_30
        case hqr2_1_30 => exact fun _ _ _ h => h
        case hyr2_1_30 => (intro w hSw; (try dsimp only at hSw); go_simp; try with_reducible rfl)
        try simp only [Act.put, List.getElem_toArray, List.getElem_cons_succ, List.getElem_cons_zero, List.setIfInBounds_toArray, List.set_cons_zero, List.set_cons_succ]
        refine wpAnyH_take (i := 31) (oi := _) (v := ?vr2_1_31) rfl (by kernel_rfl) (by kernel_rfl) (by kernel_rfl) ?hqr2_1_31 (Or.inl ⟨by kernel_rfl, ?hyr2_1_31⟩) (by assumption) ?restr2_1_31
        case hqr2_1_31 => exact fun _ _ _ h => h
        case hyr2_1_31 => (intro w hSw; (try dsimp only at hSw); go_simp; try with_reducible rfl)
        try simp only [Act.put, List.getElem_toArray, List.getElem_cons_succ, List.getElem_cons_zero, List.setIfInBounds_toArray, List.set_cons_zero, List.set_cons_succ]
        refine wpAnyH_take (i := 32) (oi := _) (v := ?vr2_1_32) rfl (by kernel_rfl) (by kernel_rfl) (by kernel_rfl) ?hqr2_1_32 (Or.inl ⟨by kernel_rfl, ?hyr2_1_32⟩) (by assumption) ?restr2_1_32
        case hqr2_1_32 => exact fun _ _ _ h => h
        case hyr2_1_32 => (intro w hSw; (try dsimp only at hSw); go_simp; try with_reducible rfl)
        try simp only [Act.put, List.getElem_toArray, List.getElem_cons_succ, List.getElem_cons_zero, List.setIfInBounds_toArray, List.set_cons_zero, List.set_cons_succ]
        refine wpAnyH_take (i := 33) (oi := _) (v := ?vr2_1_33) rfl (by kernel_rfl) (by kernel_rfl) (by kernel_rfl) ?hqr2_1_33 (Or.inl ⟨by kernel_rfl, ?hyr2_1_33⟩) (by assumption) ?restr2_1_33
        case hqr2_1_33 => exact fun _ _ _ h => h
        case hyr2_1_33 => (intro w hSw; (try dsimp only at hSw); go_simp; try with_reducible rfl)
        try simp only [Act.put, List.getElem_toArray, List.getElem_cons_succ, List.getElem_cons_zero, List.setIfInBounds_toArray, List.set_cons_zero, List.set_cons_succ]
        refine wpAnyH_ready (rs := [34]) (by kernel_rfl) (by simp) ?_
        refine AllReadyH.cons (o := _) rfl (fun K hK => ?_) AllReadyH.nil
        go_simp
        (go_at_call 32; refine (HTP2.out _ (HB7.out.then_ (And.left (by assumption)))).mono ?_; rintro e w8 ⟨rfl, hb8⟩)
        try (go_wp2_with fail)
        refine hK.out _ _ ?_ (fun hHr2_8 => ?_)
        · (try dsimp only); (first | assumption | exact hS _ (Bel.refl _).drew | exact hS _ (Bel.then_ (And.left (by assumption)) hb8))
        clear hK K hHr2_7
        try simp only [Act.put, List.getElem_toArray, List.getElem_cons_succ, List.getElem_cons_zero, List.setIfInBounds_toArray, List.set_cons_zero, List.set_cons_succ]
        refine wpAnyH_ready (rs := [35]) (by kernel_rfl) (by simp) ?_
        refine AllReadyH.cons (o := _) rfl (fun K hK => ?_) AllReadyH.nil
        go_simp
        refine hK.out _ _ ?_ (fun hHr2_9 => ?_)
        · (try dsimp only); (first | assumption | exact hS _ (Bel.refl _).drew | exact hS _ (Bel.then_ (And.left (by assumption)) hb8))
        clear hK K hHr2_8
        try simp only [Act.put, List.getElem_toArray, List.getElem_cons_succ, List.getElem_cons_zero, List.setIfInBounds_toArray, List.set_cons_zero, List.set_cons_succ]
        refine wpAnyH_take (i := 36) (oi := _) (v := ?vr2_1_36) rfl (by kernel_rfl) (by kernel_rfl) (by kernel_rfl) ?hqr2_1_36 (Or.inl ⟨by kernel_rfl, ?hyr2_1_36⟩) (by assumption) ?restr2_1_36
        case hqr2_1_36 => exact fun _ _ _ h => h
        case hyr2_1_36 => (intro w hSw; (try dsimp only at hSw); go_simp; try with_reducible rfl)
        try simp only [Act.put, List.getElem_toArray, List.getElem_cons_succ, List.getElem_cons_zero, List.setIfInBounds_toArray, List.set_cons_zero, List.set_cons_succ]
        refine wpAnyH_take (i := 37) (oi := _) (v := ?vr2_1_37) rfl (by kernel_rfl) (by kernel_rfl) (by kernel_rfl) ?hqr2_1_37 (Or.inl ⟨by kernel_rfl, ?hyr2_1_37⟩) (by assumption) ?restr2_1_37
        case hqr2_1_37 => exact fun _ _ _ h => h
        case hyr2_1_37 => (intro w hSw; (try dsimp only at hSw); go_simp; try with_reducible rfl)
        try simp only [Act.put, List.getElem_toArray, List.getElem_cons_succ, List.getElem_cons_zero, List.setIfInBounds_toArray, List.set_cons_zero, List.set_cons_succ]
        refine wpAnyH_done (by kernel_rfl) ?_ _
        refine NoPanic.normal ?_
        have hfin := And.left (by assumption)
        exact ⟨_, _, _, _, _, _, _, _, _, _, _, _, _, _, _, _, _, _, _, _, _, _, _, _, _, _, _, _, _, _, _, _, _, _, _, _, _, rfl, rfl, hfin⟩
    · rw [hr] at HCK HTR
      simp only [if_true] at HCK
      clear hr
      rcases HI.out with ⟨rfl, -⟩ | ⟨k, x, rfl, -⟩
      · obtain rfl : at_ = 0 := HAT.out
        obtain rfl : is_ = false := HIS.out
        refine wp_region_noPanic ?_
        refine wp_region_held_drew (S := (fun V : World => Bel W7 V ∧ V.cell? ⟨w.heap.size, 0, none⟩ = some vc ∧ V.cell? ⟨w.heap.size, 1, none⟩ = some vk ∧ V.cell? ⟨w.heap.size, 2, none⟩ = some vu)) (by kernel_rfl) ?_ (fun hHr3_0 => ?_)
        · (try dsimp only); (first | assumption | exact hS _ (Bel.refl _).drew | exact hS _ (Bel.then_ (And.left (by assumption)) hb8))
        refine wpAnyH_take (i := 0) (oi := _) (v := ?vr3_1_0) rfl (by kernel_rfl) (by kernel_rfl) (by kernel_rfl) ?hqr3_1_0 (Or.inl ⟨by kernel_rfl, ?hyr3_1_0⟩) (by assumption) ?restr3_1_0
        case hqr3_1_0 => exact fun _ _ _ h => h
        case hyr3_1_0 => (intro w hSw; (try dsimp only at hSw); go_simp; try with_reducible rfl)
        try simp only [Act.put, List.getElem_toArray, List.getElem_cons_succ, List.getElem_cons_zero, List.setIfInBounds_toArray, List.set_cons_zero, List.set_cons_succ]
        refine wpAnyH_take (i := 1) (oi := _) (v := ?vr3_1_1) rfl (by kernel_rfl) (by kernel_rfl) (by kernel_rfl) ?hqr3_1_1 (Or.inl ⟨by kernel_rfl, ?hyr3_1_1⟩) (by assumption) ?restr3_1_1
        case hqr3_1_1 => exact fun _ _ _ h => h
        case hyr3_1_1 => (intro w hSw; (try dsimp only at hSw); go_simp; try with_reducible rfl)
        try simp only [Act.put, List.getElem_toArray, List.getElem_cons_succ, List.getElem_cons_zero, List.setIfInBounds_toArray, List.set_cons_zero, List.set_cons_succ]
        refine wpAnyH_take (i := 2) (oi := _) (v := ?vr3_1_2) rfl (by kernel_rfl) (by kernel_rfl) (by kernel_rfl) ?hqr3_1_2 (Or.inl ⟨by kernel_rfl, ?hyr3_1_2⟩) (by assumption) ?restr3_1_2
        case hqr3_1_2 => exact fun _ _ _ h => h
        case hyr3_1_2 => (intro w hSw; (try dsimp only at hSw); go_simp; try with_reducible rfl)
        try simp only [Act.put, List.getElem_toArray, List.getElem_cons_succ, List.getElem_cons_zero, List.setIfInBounds_toArray, List.set_cons_zero, List.set_cons_succ]
        refine wpAnyH_take (i := 3) (oi := _) (v := ?vr3_1_3) rfl (by kernel_rfl) (by kernel_rfl) (by kernel_rfl) ?hqr3_1_3 (Or.inl ⟨by kernel_rfl, ?hyr3_1_3⟩) (by assumption) ?restr3_1_3
        case hqr3_1_3 => exact fun _ _ _ h => h
        case hyr3_1_3 => (intro w hSw; (try dsimp only at hSw); go_simp; try with_reducible rfl)
        try simp only [Act.put, List.getElem_toArray, List.getElem_cons_succ, List.getElem_cons_zero, List.setIfInBounds_toArray, List.set_cons_zero, List.set_cons_succ]
        refine wpAnyH_take (i := 7) (oi := _) (v := ?vr3_1_7) rfl (by kernel_rfl) (by kernel_rfl) (by kernel_rfl) ?hqr3_1_7 (Or.inl ⟨by kernel_rfl, ?hyr3_1_7⟩) (by assumption) ?restr3_1_7
        case hqr3_1_7 => exact fun _ _ _ h => h
        case hyr3_1_7 => (intro w hSw; (try dsimp only at hSw); go_simp; try with_reducible rfl)
        try simp only [Act.put, List.getElem_toArray, List.getElem_cons_succ, List.getElem_cons_zero, List.setIfInBounds_toArray, List.set_cons_zero, List.set_cons_succ]
        refine wpAnyH_ready (rs := [4]) (by kernel_rfl) (by simp) ?_
        refine AllReadyH.cons (o := _) rfl (fun K hK => ?_) AllReadyH.nil
        go_simp
        (go_at_call 25; refine (HCK.out _ (HB7.out.then_ (And.left (by assumption)))).mono ?_; rintro e w8 ⟨rfl, hb8⟩)
        try (go_wp2_with fail)
        refine hK.out _ _ ?_ (fun hHr3_1 => ?_)
        · (try dsimp only); (first | assumption | exact hS _ (Bel.refl _).drew | exact hS _ (Bel.then_ (And.left (by assumption)) hb8))
        clear hK K hHr3_0
        try simp only [Act.put, List.getElem_toArray, List.getElem_cons_succ, List.getElem_cons_zero, List.setIfInBounds_toArray, List.set_cons_zero, List.set_cons_succ]
        refine wpAnyH_ready (rs := [5]) (by kernel_rfl) (by simp) ?_
        refine AllReadyH.cons (o := _) rfl (fun K hK => ?_) AllReadyH.nil
        go_simp
        (go_at_call 17; refine (mnum_any _ _).mono ?_; rintro e w' ⟨rfl, rfl⟩)
        try (go_wp2_with fail)
        refine hK.out _ _ ?_ (fun hHr3_2 => ?_)
        · (try dsimp only); (first | assumption | exact hS _ (Bel.refl _).drew | exact hS _ (Bel.then_ (And.left (by assumption)) hb8))
        clear hK K hHr3_1
        try simp only [Act.put, List.getElem_toArray, List.getElem_cons_succ, List.getElem_cons_zero, List.setIfInBounds_toArray, List.set_cons_zero, List.set_cons_succ]
        refine wpAnyH_take (i := 6) (oi := _) (v := ?vr3_1_6) rfl (by kernel_rfl) (by kernel_rfl) (by kernel_rfl) ?hqr3_1_6 (Or.inl ⟨by kernel_rfl, ?hyr3_1_6⟩) (by assumption) ?restr3_1_6
        case hqr3_1_6 => exact fun _ _ _ h => h
        case hyr3_1_6 => (intro w hSw; (try dsimp only at hSw); go_simp; try with_reducible rfl)
        try simp only [Act.put, List.getElem_toArray, List.getElem_cons_succ, List.getElem_cons_zero, List.setIfInBounds_toArray, List.set_cons_zero, List.set_cons_succ]
        refine wpAnyH_ready (rs := [8]) (by kernel_rfl) (by simp) ?_
        refine AllReadyH.cons (o := _) rfl (fun K hK => ?_) AllReadyH.nil
        go_simp
        (go_at_call 31; refine (HTR.out _ (HB7.out.then_ (And.left (by assumption)))).mono ?_; rintro e w8 ⟨rfl, hb8⟩)
        try (go_wp2_with fail)
        refine hK.out _ _ ?_ (fun hHr3_3 => ?_)
        · (try dsimp only); (first | assumption | exact hS _ (Bel.refl _).drew | exact hS _ (Bel.then_ (And.left (by assumption)) hb8))
        clear hK K hHr3_2
        try simp only [Act.put, List.getElem_toArray, List.getElem_cons_succ, List.getElem_cons_zero, List.setIfInBounds_toArray, List.set_cons_zero, List.set_cons_succ]
        refine wpAnyH_take (i := 9) (oi := _) (v := ?vr3_1_9) rfl (by kernel_rfl) (by kernel_rfl) (by kernel_rfl) ?hqr3_1_9 (Or.inl ⟨by kernel_rfl, ?hyr3_1_9⟩) (by assumption) ?restr3_1_9
        case hqr3_1_9 => exact fun _ _ _ h => h
        case hyr3_1_9 => (intro w hSw; (try dsimp only at hSw); go_simp; try with_reducible rfl)
        try simp only [Act.put, List.getElem_toArray, List.getElem_cons_succ, List.getElem_cons_zero, List.setIfInBounds_toArray, List.set_cons_zero, List.set_cons_succ]
        refine wpAnyH_take (i := 10) (oi := _) (v := ?vr3_1_10) rfl (by kernel_rfl) (by kernel_rfl) (by kernel_rfl) ?hqr3_1_10 (Or.inl ⟨by kernel_rfl, ?hyr3_1_10⟩) (by assumption) ?restr3_1_10
        case hqr3_1_10 => exact fun _ _ _ h => h
        case hyr3_1_10 => (intro w hSw; (try dsimp only at hSw); go_simp; try with_reducible rfl)
        try simp only [Act.put, List.getElem_toArray, List.getElem_cons_succ, List.getElem_cons_zero, List.setIfInBounds_toArray, List.set_cons_zero, List.set_cons_succ]
        refine wpAnyH_take (i := 11) (oi := _) (v := ?vr3_1_11) rfl (by kernel_rfl) (by kernel_rfl) (by kernel_rfl) ?hqr3_1_11 (Or.inl ⟨by kernel_rfl, ?hyr3_1_11⟩) (by assumption) ?restr3_1_11
        case hqr3_1_11 => exact fun _ _ _ h => h
        case hyr3_1_11 => (intro w hSw; (try dsimp only at hSw); go_simp; try with_reducible rfl)
        try simp only [Act.put, List.getElem_toArray, List.getElem_cons_succ, List.getElem_cons_zero, List.setIfInBounds_toArray, List.set_cons_zero, List.set_cons_succ]
        refine wpAnyH_take (i := 12) (oi := _) (v := ?vr3_1_12) rfl (by kernel_rfl) (by kernel_rfl) (by kernel_rfl) ?hqr3_1_12 (Or.inl ⟨by kernel_rfl, ?hyr3_1_12⟩) (by assumption) ?restr3_1_12
        case hqr3_1_12 => exact fun _ _ _ h => h
        case hyr3_1_12 => (intro w hSw; (try dsimp only at hSw); go_simp; try with_reducible rfl)
        try simp only [Act.put, List.getElem_toArray, List.getElem_cons_succ, List.getElem_cons_zero, List.setIfInBounds_toArray, List.set_cons_zero, List.set_cons_succ]
        refine wpAnyH_ready (rs := [13]) (by kernel_rfl) (by simp) ?_
        refine AllReadyH.cons (o := _) rfl (fun K hK => ?_) AllReadyH.nil
        go_simp
        (go_at_call 31; refine (HTR.out _ (HB7.out.then_ (And.left (by assumption)))).mono ?_; rintro e w8 ⟨rfl, hb8⟩)
        try (go_wp2_with fail)
        refine hK.out _ _ ?_ (fun hHr3_4 => ?_)
        · (try dsimp only); (first | assumption | exact hS _ (Bel.refl _).drew | exact hS _ (Bel.then_ (And.left (by assumption)) hb8))
        clear hK K hHr3_3
        try simp only [Act.put, List.getElem_toArray, List.getElem_cons_succ, List.getElem_cons_zero, List.setIfInBounds_toArray, List.set_cons_zero, List.set_cons_succ]
        refine wpAnyH_take (i := 14) (oi := _) (v := ?vr3_1_14) rfl (by kernel_rfl) (by kernel_rfl) (by kernel_rfl) ?hqr3_1_14 (Or.inl ⟨by kernel_rfl, ?hyr3_1_14⟩) (by assumption) ?restr3_1_14
        case hqr3_1_14 => exact fun _ _ _ h => h
        case hyr3_1_14 => (intro w hSw; (try dsimp only at hSw); go_simp; try with_reducible rfl)
        try simp only [Act.put, List.getElem_toArray, List.getElem_cons_succ, List.getElem_cons_zero, List.setIfInBounds_toArray, List.set_cons_zero, List.set_cons_succ]
        refine wpAnyH_take (i := 15) (oi := _) (v := ?vr3_1_15) rfl (by kernel_rfl) (by kernel_rfl) (by kernel_rfl) ?hqr3_1_15 (Or.inl ⟨by kernel_rfl, ?hyr3_1_15⟩) (by assumption) ?restr3_1_15
        case hqr3_1_15 => exact fun _ _ _ h => h
        case hyr3_1_15 => (intro w hSw; (try dsimp only at hSw); go_simp; try with_reducible rfl)
        try simp only [Act.put, List.getElem_toArray, List.getElem_cons_succ, List.getElem_cons_zero, List.setIfInBounds_toArray, List.set_cons_zero, List.set_cons_succ]
        refine wpAnyH_take (i := 16) (oi := _) (v := undef) rfl (by kernel_rfl) (by kernel_rfl) (by kernel_rfl) (fun _ _ _ h => h) (Or.inr ⟨by kernel_rfl, rfl⟩) (by assumption) ?restr3_1_16
        try simp only [Act.put, List.getElem_toArray, List.getElem_cons_succ, List.getElem_cons_zero, List.setIfInBounds_toArray, List.set_cons_zero, List.set_cons_succ]
        refine wpAnyH_take (i := 17) (oi := _) (v := undef) rfl (by kernel_rfl) (by kernel_rfl) (by kernel_rfl) (fun _ _ _ h => h) (Or.inr ⟨by kernel_rfl, rfl⟩) (by assumption) ?restr3_1_17
        try simp only [Act.put, List.getElem_toArray, List.getElem_cons_succ, List.getElem_cons_zero, List.setIfInBounds_toArray, List.set_cons_zero, List.set_cons_succ]
        refine wpAnyH_take (i := 18) (oi := _) (v := undef) rfl (by kernel_rfl) (by kernel_rfl) (by kernel_rfl) (fun _ _ _ h => h) (Or.inr ⟨by kernel_rfl, rfl⟩) (by assumption) ?restr3_1_18
        try simp only [Act.put, List.getElem_toArray, List.getElem_cons_succ, List.getElem_cons_zero, List.setIfInBounds_toArray, List.set_cons_zero, List.set_cons_succ]
        refine wpAnyH_take (i := 19) (oi := _) (v := undef) rfl (by kernel_rfl) (by kernel_rfl) (by kernel_rfl) (fun _ _ _ h => h) (Or.inr ⟨by kernel_rfl, rfl⟩) (by assumption) ?restr3_1_19
        try simp only [Act.put, List.getElem_toArray, List.getElem_cons_succ, List.getElem_cons_zero, List.setIfInBounds_toArray, List.set_cons_zero, List.set_cons_succ]
        refine wpAnyH_take (i := 20) (oi := _) (v := ?vr3_1_20) rfl (by kernel_rfl) (by kernel_rfl) (by kernel_rfl) ?hqr3_1_20 (Or.inl ⟨by kernel_rfl, ?hyr3_1_20⟩) (by assumption) ?restr3_1_20
        case hqr3_1_20 => exact fun _ _ _ h => h
        case hyr3_1_20 => (intro w hSw; (try dsimp only at hSw); go_simp; try with_reducible rfl)
        try simp only [Act.put, List.getElem_toArray, List.getElem_cons_succ, List.getElem_cons_zero, List.setIfInBounds_toArray, List.set_cons_zero, List.set_cons_succ]
        refine wpAnyH_take (i := 21) (oi := _) (v := ?vr3_1_21) rfl (by kernel_rfl) (by kernel_rfl) (by kernel_rfl) ?hqr3_1_21 (Or.inl ⟨by kernel_rfl, ?hyr3_1_21⟩) (by assumption) ?restr3_1_21
        case hqr3_1_21 => exact fun _ _ _ h => h
        case hyr3_1_21 => (intro w hSw; (try dsimp only at hSw); go_simp; try with_reducible rfl)
        try simp only [Act.put, List.getElem_toArray, List.getElem_cons_succ, List.getElem_cons_zero, List.setIfInBounds_toArray, List.set_cons_zero, List.set_cons_succ]
        refine wpAnyH_take (i := 22) (oi := _) (v := ?vr3_1_22) rfl (by kernel_rfl) (by kernel_rfl) (by kernel_rfl) ?hqr3_1_22 (Or.inl ⟨by kernel_rfl, ?hyr3_1_22⟩) (by assumption) ?restr3_1_22
        case hqr3_1_22 => exact fun _ _ _ h => h
        case hyr3_1_22 => (intro w hSw; (try dsimp only at hSw); go_simp; try with_reducible rfl)
        try simp only [Act.put, List.getElem_toArray, List.getElem_cons_succ, List.getElem_cons_zero, List.setIfInBounds_toArray, List.set_cons_zero, List.set_cons_succ]
        refine wpAnyH_take (i := 23) (oi := _) (v := ?vr3_1_23) rfl (by kernel_rfl) (by kernel_rfl) (by kernel_rfl) ?hqr3_1_23 (Or.inl ⟨by kernel_rfl, ?hyr3_1_23⟩) (by assumption) ?restr3_1_23
        case hqr3_1_23 => exact fun _ _ _ h => h
        case hyr3_1_23 => (intro w hSw; (try dsimp only at hSw); go_simp; try with_reducible rfl)
        try simp only [Act.put, List.getElem_toArray, List.getElem_cons_succ, List.getElem_cons_zero, List.setIfInBounds_toArray, List.set_cons_zero, List.set_cons_succ]
        refine wpAnyH_take (i := 24) (oi := _) (v := ?vr3_1_24) rfl (by kernel_rfl) (by kernel_rfl) (by kernel_rfl) ?hqr3_1_24 (Or.inl ⟨by kernel_rfl, ?hyr3_1_24⟩) (by assumption) ?restr3_1_24
        case hqr3_1_24 => exact fun _ _ _ h => h
        case hyr3_1_24 => (intro w hSw; (try dsimp only at hSw); go_simp; try with_reducible rfl)
        try simp only [Act.put, List.getElem_toArray, List.getElem_cons_succ, List.getElem_cons_zero, List.setIfInBounds_toArray, List.set_cons_zero, List.set_cons_succ]
        refine wpAnyH_take (i := 25) (oi := _) (v := ?vr3_1_25) rfl (by kernel_rfl) (by kernel_rfl) (by kernel_rfl) ?hqr3_1_25 (Or.inl ⟨by kernel_rfl, ?hyr3_1_25⟩) (by assumption) ?restr3_1_25
        case hqr3_1_25 => exact fun _ _ _ h => h
        case hyr3_1_25 => (intro w hSw; (try dsimp only at hSw); go_simp; try with_reducible rfl)
        try simp only [Act.put, List.getElem_toArray, List.getElem_cons_succ, List.getElem_cons_zero, List.setIfInBounds_toArray, List.set_cons_zero, List.set_cons_succ]
        refine wpAnyH_ready (rs := [26]) (by kernel_rfl) (by simp) ?_
        refine AllReadyH.cons (o := _) rfl (fun K hK => ?_) AllReadyH.nil
        go_simp
        (go_at_call 32; refine (HTP2.out _ (HB7.out.then_ (And.left (by assumption)))).mono ?_; rintro e w8 ⟨rfl, hb8⟩)
        try (go_wp2_with fail)
        refine hK.out _ _ ?_ (fun hHr3_5 => ?_)
        · (try dsimp only); (first | assumption | exact hS _ (Bel.refl _).drew | exact hS _ (Bel.then_ (And.left (by assumption)) hb8))
        clear hK K hHr3_4
        try simp only [Act.put, List.getElem_toArray, List.getElem_cons_succ, List.getElem_cons_zero, List.setIfInBounds_toArray, List.set_cons_zero, List.set_cons_succ]
        refine wpAnyH_take (i := 27) (oi := _) (v := ?vr3_1_27) rfl (by kernel_rfl) (by kernel_rfl) (by kernel_rfl) ?hqr3_1_27 (Or.inl ⟨by kernel_rfl, ?hyr3_1_27⟩) (by assumption) ?restr3_1_27
        case hqr3_1_27 => exact fun _ _ _ h => h
        case hyr3_1_27 => (intro w hSw; (try dsimp only at hSw); go_simp; try with_reducible rfl)
        try simp only [Act.put, List.getElem_toArray, List.getElem_cons_succ, List.getElem_cons_zero, List.setIfInBounds_toArray, List.set_cons_zero, List.set_cons_succ]
        refine wpAnyH_take (i := 28) (oi := _) (v := ?vr3_1_28) rfl (by kernel_rfl) (by kernel_rfl) (by kernel_rfl) ?hqr3_1_28 (Or.inl ⟨by kernel_rfl, ?hyr3_1_28⟩) (by assumption) ?restr3_1_28
        case hqr3_1_28 => exact fun _ _ _ h => h
        case hyr3_1_28 => (intro w hSw; (try dsimp only at hSw); go_simp; try with_reducible rfl)
        try simp only [Act.put, List.getElem_toArray, List.getElem_cons_succ, List.getElem_cons_zero, List.setIfInBounds_toArray, List.set_cons_zero, List.set_cons_succ]
        refine wpAnyH_take (i := 29) (oi := _) (v := ?vr3_1_29) rfl (by kernel_rfl) (by kernel_rfl) (by kernel_rfl) ?hqr3_1_29 (Or.inl ⟨by kernel_rfl, ?hyr3_1_29⟩) (by assumption) ?restr3_1_29
        case hqr3_1_29 => exact fun _ _ _ h => h
        case hyr3_1_29 => (intro w hSw; (try dsimp only at hSw); go_simp; try with_reducible rfl)
        try simp only [Act.put, List.getElem_toArray, List.getElem_cons_succ, List.getElem_cons_zero, List.setIfInBounds_toArray, List.set_cons_zero, List.set_cons_succ]
        refine wpAnyH_take (i := 30) (oi := _) (v := ?vr3_1_30) rfl (by kernel_rfl) (by kernel_rfl) (by kernel_rfl) ?hqr3_1_30 (Or.inl ⟨by kernel_rfl, ?hyr3_1_30⟩) (by assumption) ?restr3_1_30
        case hqr3_1_30 => exact fun _ _ _ h => h
        case hyr3_1_30 => (intro w hSw; (try dsimp only at hSw); go_simp; try with_reducible rfl)
        try simp only [Act.put, List.getElem_toArray, List.getElem_cons_succ, List.getElem_cons_zero, List.setIfInBounds_toArray, List.set_cons_zero, List.set_cons_succ]
        refine wpAnyH_take (i := 31) (oi := _) (v := ?vr3_1_31) rfl (by kernel_rfl) (by kernel_rfl) (by kernel_rfl) ?hqr3_1_31 (Or.inl ⟨by kernel_rfl, ?hyr3_1_31⟩) (by assumption) ?restr3_1_31
        case hqr3_1_31 => exact fun _ _ _ h => h
        case hyr3_1_31 => (intro w hSw; (try dsimp only at hSw); go_simp; try with_reducible rfl)
        try simp only [Act.put, List.getElem_toArray, List.getElem_cons_succ, List.getElem_cons_zero, List.setIfInBounds_toArray, List.set_cons_zero, List.set_cons_succ]
        refine wpAnyH_take (i := 32) (oi := _) (v := ?vr3_1_32) rfl (by kernel_rfl) (by kernel_rfl) (by kernel_rfl) ?hqr3_1_32 (Or.inl ⟨by kernel_rfl, ?hyr3_1_32⟩) (by assumption) ?restr3_1_32
        case hqr3_1_32 => exact fun _ _ _ h => h
        case hyr3_1_32 => (intro w hSw; (try dsimp only at hSw); go_simp; try with_reducible rfl)
        try simp only [Act.put, List.getElem_toArray, List.getElem_cons_succ, List.getElem_cons_zero, List.setIfInBounds_toArray, List.set_cons_zero, List.set_cons_succ]
        refine wpAnyH_take (i := 33) (oi := _) (v := ?vr3_1_33) rfl (by kernel_rfl) (by kernel_rfl) (by kernel_rfl) ?hqr3_1_33 (Or.inl ⟨by kernel_rfl, ?hyr3_1_33⟩) (by assumption) ?restr3_1_33
        case hqr3_1_33 => exact fun _ _ _ h => h
        case hyr3_1_33 => (intro w hSw; (try dsimp only at hSw); go_simp; try with_reducible rfl)
        try simp only [Act.put, List.getElem_toArray, List.getElem_cons_succ, List.getElem_cons_zero, List.setIfInBounds_toArray, List.set_cons_zero, List.set_cons_succ]
        refine wpAnyH_ready (rs := [34]) (by kernel_rfl) (by simp) ?_
        refine AllReadyH.cons (o := _) rfl (fun K hK => ?_) AllReadyH.nil
        go_simp
        (go_at_call 32; refine (HTP2.out _ (HB7.out.then_ (And.left (by assumption)))).mono ?_; rintro e w8 ⟨rfl, hb8⟩)
        try (go_wp2_with fail)
        refine hK.out _ _ ?_ (fun hHr3_6 => ?_)
        · (try dsimp only); (first | assumption | exact hS _ (Bel.refl _).drew | exact hS _ (Bel.then_ (And.left (by assumption)) hb8))
        clear hK K hHr3_5
        try simp only [Act.put, List.getElem_toArray, List.getElem_cons_succ, List.getElem_cons_zero, List.setIfInBounds_toArray, List.set_cons_zero, List.set_cons_succ]
        refine wpAnyH_ready (rs := [35]) (by kernel_rfl) (by simp) ?_
        refine AllReadyH.cons (o := _) rfl (fun K hK => ?_) AllReadyH.nil
        go_simp
        refine hK.out _ _ ?_ (fun hHr3_7 => ?_)
        · (try dsimp only); (first | assumption | exact hS _ (Bel.refl _).drew | exact hS _ (Bel.then_ (And.left (by assumption)) hb8))
        clear hK K hHr3_6
        try simp only [Act.put, List.getElem_toArray, List.getElem_cons_succ, List.getElem_cons_zero, List.setIfInBounds_toArray, List.set_cons_zero, List.set_cons_succ]
        refine wpAnyH_take (i := 36) (oi := _) (v := ?vr3_1_36) rfl (by kernel_rfl) (by kernel_rfl) (by kernel_rfl) ?hqr3_1_36 (Or.inl ⟨by kernel_rfl, ?hyr3_1_36⟩) (by assumption) ?restr3_1_36
        case hqr3_1_36 => exact fun _ _ _ h => h
        case hyr3_1_36 => (intro w hSw; (try dsimp only at hSw); go_simp; try with_reducible rfl)
        try simp only [Act.put, List.getElem_toArray, List.getElem_cons_succ, List.getElem_cons_zero, List.setIfInBounds_toArray, List.set_cons_zero, List.set_cons_succ]
        refine wpAnyH_take (i := 37) (oi := _) (v := ?vr3_1_37) rfl (by kernel_rfl) (by kernel_rfl) (by kernel_rfl) ?hqr3_1_37 (Or.inl ⟨by kernel_rfl, ?hyr3_1_37⟩) (by assumption) ?restr3_1_37
        case hqr3_1_37 => exact fun _ _ _ h => h
        case hyr3_1_37 => (intro w hSw; (try dsimp only at hSw); go_simp; try with_reducible rfl)
        try simp only [Act.put, List.getElem_toArray, List.getElem_cons_succ, List.getElem_cons_zero, List.setIfInBounds_toArray, List.set_cons_zero, List.set_cons_succ]
        refine wpAnyH_done (by kernel_rfl) ?_ _
        refine NoPanic.normal ?_
        have hfin := And.left (by assumption)
        exact ⟨_, _, _, _, _, _, _, _, _, _, _, _, _, _, _, _, _, _, _, _, _, _, _, _, _, _, _, _, _, _, _, _, _, _, _, _, _, rfl, rfl, hfin⟩
      · have hk0 : (0 : Int) ≤ k := by omega
        obtain rfl : at_ = k := by rw [HAT.out, if_pos hk0]
        obtain rfl : is_ = true := by rw [HIS.out, decide_eq_true hk0]
        have hmk : (if 0 < k then (k : Int) else 0) = k := by split <;> omega
        have hkk : ((k : Int) != k) = false := by simp
        refine wp_region_noPanic ?_
        refine wp_region_held_drew (S := (fun V : World => Bel W7 V ∧ V.cell? ⟨w.heap.size, 0, none⟩ = some vc ∧ V.cell? ⟨w.heap.size, 1, none⟩ = some vk ∧ V.cell? ⟨w.heap.size, 2, none⟩ = some vu)) (by kernel_rfl) ?_ (fun hHr4_0 => ?_)
        · (try dsimp only); (first | assumption | exact hS _ (Bel.refl _).drew | exact hS _ (Bel.then_ (And.left (by assumption)) hb8))
        refine wpAnyH_take (i := 0) (oi := _) (v := ?vr4_1_0) rfl (by kernel_rfl) (by kernel_rfl) (by kernel_rfl) ?hqr4_1_0 (Or.inl ⟨by kernel_rfl, ?hyr4_1_0⟩) (by assumption) ?restr4_1_0
        case hqr4_1_0 => exact fun _ _ _ h => h
        case hyr4_1_0 => (intro w hSw; (try dsimp only at hSw); go_simp; try with_reducible rfl)
        try simp only [Act.put, List.getElem_toArray, List.getElem_cons_succ, List.getElem_cons_zero, List.setIfInBounds_toArray, List.set_cons_zero, List.set_cons_succ]
        refine wpAnyH_take (i := 1) (oi := _) (v := ?vr4_1_1) rfl (by kernel_rfl) (by kernel_rfl) (by kernel_rfl) ?hqr4_1_1 (Or.inl ⟨by kernel_rfl, ?hyr4_1_1⟩) (by assumption) ?restr4_1_1
        case hqr4_1_1 => exact fun _ _ _ h => h
        case hyr4_1_1 => (intro w hSw; (try dsimp only at hSw); go_simp; try with_reducible rfl)
        try simp only [Act.put, List.getElem_toArray, List.getElem_cons_succ, List.getElem_cons_zero, List.setIfInBounds_toArray, List.set_cons_zero, List.set_cons_succ]
        refine wpAnyH_take (i := 2) (oi := _) (v := ?vr4_1_2) rfl (by kernel_rfl) (by kernel_rfl) (by kernel_rfl) ?hqr4_1_2 (Or.inl ⟨by kernel_rfl, ?hyr4_1_2⟩) (by assumption) ?restr4_1_2
        case hqr4_1_2 => exact fun _ _ _ h => h
        case hyr4_1_2 => (intro w hSw; (try dsimp only at hSw); go_simp; try with_reducible rfl)
        try simp only [Act.put, List.getElem_toArray, List.getElem_cons_succ, List.getElem_cons_zero, List.setIfInBounds_toArray, List.set_cons_zero, List.set_cons_succ]
        refine wpAnyH_take (i := 3) (oi := _) (v := ?vr4_1_3) rfl (by kernel_rfl) (by kernel_rfl) (by kernel_rfl) ?hqr4_1_3 (Or.inl ⟨by kernel_rfl, ?hyr4_1_3⟩) (by assumption) ?restr4_1_3
        case hqr4_1_3 => exact fun _ _ _ h => h
        case hyr4_1_3 => (intro w hSw; (try dsimp only at hSw); go_simp; try with_reducible rfl)
        try simp only [Act.put, List.getElem_toArray, List.getElem_cons_succ, List.getElem_cons_zero, List.setIfInBounds_toArray, List.set_cons_zero, List.set_cons_succ]
        refine wpAnyH_take (i := 7) (oi := _) (v := ?vr4_1_7) rfl (by kernel_rfl) (by kernel_rfl) (by kernel_rfl) ?hqr4_1_7 (Or.inl ⟨by kernel_rfl, ?hyr4_1_7⟩) (by assumption) ?restr4_1_7
        case hqr4_1_7 => exact fun _ _ _ h => h
        case hyr4_1_7 => (intro w hSw; (try dsimp only at hSw); go_simp; try with_reducible rfl)
        try simp only [Act.put, List.getElem_toArray, List.getElem_cons_succ, List.getElem_cons_zero, List.setIfInBounds_toArray, List.set_cons_zero, List.set_cons_succ]
        refine wpAnyH_ready (rs := [4]) (by kernel_rfl) (by simp) ?_
        refine AllReadyH.cons (o := _) rfl (fun K hK => ?_) AllReadyH.nil
        go_simp
        (go_at_call 25; refine (HCK.out _ (HB7.out.then_ (And.left (by assumption)))).mono ?_; rintro e w8 ⟨rfl, hb8⟩)
        try (go_wp2_with fail)
        refine hK.out _ _ ?_ (fun hHr4_1 => ?_)
        · (try dsimp only); (first | assumption | exact hS _ (Bel.refl _).drew | exact hS _ (Bel.then_ (And.left (by assumption)) hb8))
        clear hK K hHr4_0
        try simp only [Act.put, List.getElem_toArray, List.getElem_cons_succ, List.getElem_cons_zero, List.setIfInBounds_toArray, List.set_cons_zero, List.set_cons_succ]
        refine wpAnyH_ready (rs := [5]) (by kernel_rfl) (by simp) ?_
        refine AllReadyH.cons (o := _) rfl (fun K hK => ?_) AllReadyH.nil
        go_simp
        (go_at_call 17; refine (mnum_any _ _).mono ?_; rintro e w' ⟨rfl, rfl⟩)
        try (go_wp2_with fail)
        refine hK.out _ _ ?_ (fun hHr4_2 => ?_)
        · (try dsimp only); (first | assumption | exact hS _ (Bel.refl _).drew | exact hS _ (Bel.then_ (And.left (by assumption)) hb8))
        clear hK K hHr4_1
        try simp only [Act.put, List.getElem_toArray, List.getElem_cons_succ, List.getElem_cons_zero, List.setIfInBounds_toArray, List.set_cons_zero, List.set_cons_succ]
        refine wpAnyH_take (i := 6) (oi := _) (v := ?vr4_1_6) rfl (by kernel_rfl) (by kernel_rfl) (by kernel_rfl) ?hqr4_1_6 (Or.inl ⟨by kernel_rfl, ?hyr4_1_6⟩) (by assumption) ?restr4_1_6
        case hqr4_1_6 => exact fun _ _ _ h => h
        case hyr4_1_6 => (intro w hSw; (try dsimp only at hSw); go_simp; try with_reducible rfl)
        try simp only [Act.put, List.getElem_toArray, List.getElem_cons_succ, List.getElem_cons_zero, List.setIfInBounds_toArray, List.set_cons_zero, List.set_cons_succ]
        refine wpAnyH_ready (rs := [8]) (by kernel_rfl) (by simp) ?_
        refine AllReadyH.cons (o := _) rfl (fun K hK => ?_) AllReadyH.nil
        go_simp
        (go_at_call 31; refine (HTR.out _ (HB7.out.then_ (And.left (by assumption)))).mono ?_; rintro e w8 ⟨rfl, hb8⟩)
        try (go_wp2_with fail)
        refine hK.out _ _ ?_ (fun hHr4_3 => ?_)
        · (try dsimp only); (first | assumption | exact hS _ (Bel.refl _).drew | exact hS _ (Bel.then_ (And.left (by assumption)) hb8))
        clear hK K hHr4_2
        try simp only [Act.put, List.getElem_toArray, List.getElem_cons_succ, List.getElem_cons_zero, List.setIfInBounds_toArray, List.set_cons_zero, List.set_cons_succ]
        refine wpAnyH_take (i := 9) (oi := _) (v := ?vr4_1_9) rfl (by kernel_rfl) (by kernel_rfl) (by kernel_rfl) ?hqr4_1_9 (Or.inl ⟨by kernel_rfl, ?hyr4_1_9⟩) (by assumption) ?restr4_1_9
        case hqr4_1_9 => exact fun _ _ _ h => h
        case hyr4_1_9 => (intro w hSw; (try dsimp only at hSw); go_simp; try with_reducible rfl)
        try simp only [Act.put, List.getElem_toArray, List.getElem_cons_succ, List.getElem_cons_zero, List.setIfInBounds_toArray, List.set_cons_zero, List.set_cons_succ]
        refine wpAnyH_take (i := 10) (oi := _) (v := ?vr4_1_10) rfl (by kernel_rfl) (by kernel_rfl) (by kernel_rfl) ?hqr4_1_10 (Or.inl ⟨by kernel_rfl, ?hyr4_1_10⟩) (by assumption) ?restr4_1_10
        case hqr4_1_10 => exact fun _ _ _ h => h
        case hyr4_1_10 => (intro w hSw; (try dsimp only at hSw); go_simp; try with_reducible rfl)
        try simp only [Act.put, List.getElem_toArray, List.getElem_cons_succ, List.getElem_cons_zero, List.setIfInBounds_toArray, List.set_cons_zero, List.set_cons_succ]
        refine wpAnyH_take (i := 11) (oi := _) (v := ?vr4_1_11) rfl (by kernel_rfl) (by kernel_rfl) (by kernel_rfl) ?hqr4_1_11 (Or.inl ⟨by kernel_rfl, ?hyr4_1_11⟩) (by assumption) ?restr4_1_11
        case hqr4_1_11 => exact fun _ _ _ h => h
        case hyr4_1_11 => (intro w hSw; (try dsimp only at hSw); go_simp; try with_reducible rfl)
        try simp only [Act.put, List.getElem_toArray, List.getElem_cons_succ, List.getElem_cons_zero, List.setIfInBounds_toArray, List.set_cons_zero, List.set_cons_succ]
        refine wpAnyH_take (i := 12) (oi := _) (v := ?vr4_1_12) rfl (by kernel_rfl) (by kernel_rfl) (by kernel_rfl) ?hqr4_1_12 (Or.inl ⟨by kernel_rfl, ?hyr4_1_12⟩) (by assumption) ?restr4_1_12
        case hqr4_1_12 => exact fun _ _ _ h => h
        case hyr4_1_12 => (intro w hSw; (try dsimp only at hSw); go_simp; try with_reducible rfl)
        try simp only [Act.put, List.getElem_toArray, List.getElem_cons_succ, List.getElem_cons_zero, List.setIfInBounds_toArray, List.set_cons_zero, List.set_cons_succ]
        refine wpAnyH_ready (rs := [13]) (by kernel_rfl) (by simp) ?_
        refine AllReadyH.cons (o := _) rfl (fun K hK => ?_) AllReadyH.nil
        go_simp
        (go_at_call 31; refine (HTR.out _ (HB7.out.then_ (And.left (by assumption)))).mono ?_; rintro e w8 ⟨rfl, hb8⟩)
        try (go_wp2_with fail)
        refine hK.out _ _ ?_ (fun hHr4_4 => ?_)
        · (try dsimp only); (first | assumption | exact hS _ (Bel.refl _).drew | exact hS _ (Bel.then_ (And.left (by assumption)) hb8))
        clear hK K hHr4_3
        try simp only [Act.put, List.getElem_toArray, List.getElem_cons_succ, List.getElem_cons_zero, List.setIfInBounds_toArray, List.set_cons_zero, List.set_cons_succ]
        refine wpAnyH_take (i := 14) (oi := _) (v := ?vr4_1_14) rfl (by kernel_rfl) (by kernel_rfl) (by kernel_rfl) ?hqr4_1_14 (Or.inl ⟨by kernel_rfl, ?hyr4_1_14⟩) (by assumption) ?restr4_1_14
        case hqr4_1_14 => exact fun _ _ _ h => h
        case hyr4_1_14 => (intro w hSw; (try dsimp only at hSw); go_simp; try with_reducible rfl)
        try simp only [Act.put, List.getElem_toArray, List.getElem_cons_succ, List.getElem_cons_zero, List.setIfInBounds_toArray, List.set_cons_zero, List.set_cons_succ]
        refine wpAnyH_take (i := 15) (oi := _) (v := ?vr4_1_15) rfl (by kernel_rfl) (by kernel_rfl) (by kernel_rfl) ?hqr4_1_15 (Or.inl ⟨by kernel_rfl, ?hyr4_1_15⟩) (by assumption) ?restr4_1_15
        case hqr4_1_15 => exact fun _ _ _ h => h
        case hyr4_1_15 => (intro w hSw; (try dsimp only at hSw); go_simp; try with_reducible rfl)
        try simp only [Act.put, List.getElem_toArray, List.getElem_cons_succ, List.getElem_cons_zero, List.setIfInBounds_toArray, List.set_cons_zero, List.set_cons_succ]
        refine wpAnyH_take (i := 16) (oi := _) (v := undef) rfl (by kernel_rfl) (by kernel_rfl) (by kernel_rfl) (fun _ _ _ h => h) (Or.inr ⟨by kernel_rfl, rfl⟩) (by assumption) ?restr4_1_16
        try simp only [Act.put, List.getElem_toArray, List.getElem_cons_succ, List.getElem_cons_zero, List.setIfInBounds_toArray, List.set_cons_zero, List.set_cons_succ]
        refine wpAnyH_take (i := 17) (oi := _) (v := undef) rfl (by kernel_rfl) (by kernel_rfl) (by kernel_rfl) (fun _ _ _ h => h) (Or.inr ⟨by kernel_rfl, rfl⟩) (by assumption) ?restr4_1_17
        try simp only [Act.put, List.getElem_toArray, List.getElem_cons_succ, List.getElem_cons_zero, List.setIfInBounds_toArray, List.set_cons_zero, List.set_cons_succ]
        refine wpAnyH_take (i := 18) (oi := _) (v := undef) rfl (by kernel_rfl) (by kernel_rfl) (by kernel_rfl) (fun _ _ _ h => h) (Or.inr ⟨by kernel_rfl, rfl⟩) (by assumption) ?restr4_1_18
        try simp only [Act.put, List.getElem_toArray, List.getElem_cons_succ, List.getElem_cons_zero, List.setIfInBounds_toArray, List.set_cons_zero, List.set_cons_succ]
        refine wpAnyH_take (i := 19) (oi := _) (v := undef) rfl (by kernel_rfl) (by kernel_rfl) (by kernel_rfl) (fun _ _ _ h => h) (Or.inr ⟨by kernel_rfl, rfl⟩) (by assumption) ?restr4_1_19
        try simp only [Act.put, List.getElem_toArray, List.getElem_cons_succ, List.getElem_cons_zero, List.setIfInBounds_toArray, List.set_cons_zero, List.set_cons_succ]
        refine wpAnyH_take (i := 20) (oi := _) (v := ?vr4_1_20) rfl (by kernel_rfl) (by kernel_rfl) (by kernel_rfl) ?hqr4_1_20 (Or.inl ⟨by kernel_rfl, ?hyr4_1_20⟩) (by assumption) ?restr4_1_20
        case hqr4_1_20 => exact fun _ _ _ h => h
        case hyr4_1_20 => (intro w hSw; (try dsimp only at hSw); go_simp; try with_reducible rfl)
        try simp only [Act.put, List.getElem_toArray, List.getElem_cons_succ, List.getElem_cons_zero, List.setIfInBounds_toArray, List.set_cons_zero, List.set_cons_succ]
        refine wpAnyH_take (i := 21) (oi := _) (v := ?vr4_1_21) rfl (by kernel_rfl) (by kernel_rfl) (by kernel_rfl) ?hqr4_1_21 (Or.inl ⟨by kernel_rfl, ?hyr4_1_21⟩) (by assumption) ?restr4_1_21
        case hqr4_1_21 => exact fun _ _ _ h => h
        case hyr4_1_21 => (intro w hSw; (try dsimp only at hSw); go_simp; try with_reducible rfl)
        try simp only [Act.put, List.getElem_toArray, List.getElem_cons_succ, List.getElem_cons_zero, List.setIfInBounds_toArray, List.set_cons_zero, List.set_cons_succ]
        refine wpAnyH_take (i := 22) (oi := _) (v := ?vr4_1_22) rfl (by kernel_rfl) (by kernel_rfl) (by kernel_rfl) ?hqr4_1_22 (Or.inl ⟨by kernel_rfl, ?hyr4_1_22⟩) (by assumption) ?restr4_1_22
        case hqr4_1_22 => exact fun _ _ _ h => h
        case hyr4_1_22 => (intro w hSw; (try dsimp only at hSw); go_simp; try with_reducible rfl)
        try simp only [Act.put, List.getElem_toArray, List.getElem_cons_succ, List.getElem_cons_zero, List.setIfInBounds_toArray, List.set_cons_zero, List.set_cons_succ]
        refine wpAnyH_take (i := 23) (oi := _) (v := ?vr4_1_23) rfl (by kernel_rfl) (by kernel_rfl) (by kernel_rfl) ?hqr4_1_23 (Or.inl ⟨by kernel_rfl, ?hyr4_1_23⟩) (by assumption) ?restr4_1_23
        case hqr4_1_23 => exact fun _ _ _ h => h
        case hyr4_1_23 => (intro w hSw; (try dsimp only at hSw); go_simp; try with_reducible rfl)
        try simp only [Act.put, List.getElem_toArray, List.getElem_cons_succ, List.getElem_cons_zero, List.setIfInBounds_toArray, List.set_cons_zero, List.set_cons_succ]
        refine wpAnyH_take (i := 24) (oi := _) (v := ?vr4_1_24) rfl (by kernel_rfl) (by kernel_rfl) (by kernel_rfl) ?hqr4_1_24 (Or.inl ⟨by kernel_rfl, ?hyr4_1_24⟩) (by assumption) ?restr4_1_24
        case hqr4_1_24 => exact fun _ _ _ h => h
        case hyr4_1_24 => (intro w hSw; (try dsimp only at hSw); go_simp; try with_reducible rfl)
        try simp only [Act.put, List.getElem_toArray, List.getElem_cons_succ, List.getElem_cons_zero, List.setIfInBounds_toArray, List.set_cons_zero, List.set_cons_succ]
        refine wpAnyH_take (i := 25) (oi := _) (v := ?vr4_1_25) rfl (by kernel_rfl) (by kernel_rfl) (by kernel_rfl) ?hqr4_1_25 (Or.inl ⟨by kernel_rfl, ?hyr4_1_25⟩) (by assumption) ?restr4_1_25
        case hqr4_1_25 => exact fun _ _ _ h => h
        case hyr4_1_25 => (intro w hSw; (try dsimp only at hSw); go_simp; try with_reducible rfl)
        try simp only [Act.put, List.getElem_toArray, List.getElem_cons_succ, List.getElem_cons_zero, List.setIfInBounds_toArray, List.set_cons_zero, List.set_cons_succ]
        refine wpAnyH_ready (rs := [26]) (by kernel_rfl) (by simp) ?_
        refine AllReadyH.cons (o := _) rfl (fun K hK => ?_) AllReadyH.nil
        go_simp
        (go_at_call 32; refine (HTP2.out _ (HB7.out.then_ (And.left (by assumption)))).mono ?_; rintro e w8 ⟨rfl, hb8⟩)
        try (go_wp2_with fail)
        refine hK.out _ _ ?_ (fun hHr4_5 => ?_)
        · (try dsimp only); (first | assumption | exact hS _ (Bel.refl _).drew | exact hS _ (Bel.then_ (And.left (by assumption)) hb8))
        clear hK K hHr4_4
        try simp only [Act.put, List.getElem_toArray, List.getElem_cons_succ, List.getElem_cons_zero, List.setIfInBounds_toArray, List.set_cons_zero, List.set_cons_succ]
        refine wpAnyH_take (i := 27) (oi := _) (v := ?vr4_1_27) rfl (by kernel_rfl) (by kernel_rfl) (by kernel_rfl) ?hqr4_1_27 (Or.inl ⟨by kernel_rfl, ?hyr4_1_27⟩) (by assumption) ?restr4_1_27
        case hqr4_1_27 => exact fun _ _ _ h => h
        case hyr4_1_27 => (intro w hSw; (try dsimp only at hSw); go_simp; try with_reducible rfl)
        try simp only [Act.put, List.getElem_toArray, List.getElem_cons_succ, List.getElem_cons_zero, List.setIfInBounds_toArray, List.set_cons_zero, List.set_cons_succ]
        refine wpAnyH_take (i := 28) (oi := _) (v := ?vr4_1_28) rfl (by kernel_rfl) (by kernel_rfl) (by kernel_rfl) ?hqr4_1_28 (Or.inl ⟨by kernel_rfl, ?hyr4_1_28⟩) (by assumption) ?restr4_1_28
        case hqr4_1_28 => exact fun _ _ _ h => h
        case hyr4_1_28 => (intro w hSw; (try dsimp only at hSw); go_simp; try with_reducible rfl)
        try simp only [Act.put, List.getElem_toArray, List.getElem_cons_succ, List.getElem_cons_zero, List.setIfInBounds_toArray, List.set_cons_zero, List.set_cons_succ]
        refine wpAnyH_take (i := 29) (oi := _) (v := ?vr4_1_29) rfl (by kernel_rfl) (by kernel_rfl) (by kernel_rfl) ?hqr4_1_29 (Or.inl ⟨by kernel_rfl, ?hyr4_1_29⟩) (by assumption) ?restr4_1_29
        case hqr4_1_29 => exact fun _ _ _ h => h
        case hyr4_1_29 => (intro w hSw; (try dsimp only at hSw); go_simp; try with_reducible rfl)
        try simp only [Act.put, List.getElem_toArray, List.getElem_cons_succ, List.getElem_cons_zero, List.setIfInBounds_toArray, List.set_cons_zero, List.set_cons_succ]
        refine wpAnyH_take (i := 30) (oi := _) (v := ?vr4_1_30) rfl (by kernel_rfl) (by kernel_rfl) (by kernel_rfl) ?hqr4_1_30 (Or.inl ⟨by kernel_rfl, ?hyr4_1_30⟩) (by assumption) ?restr4_1_30
        case hqr4_1_30 => exact fun _ _ _ h => h
        case hyr4_1_30 => (intro w hSw; (try dsimp only at hSw); go_simp; try with_reducible rfl)
        try simp only [Act.put, List.getElem_toArray, List.getElem_cons_succ, List.getElem_cons_zero, List.setIfInBounds_toArray, List.set_cons_zero, List.set_cons_succ]
        refine wpAnyH_take (i := 31) (oi := _) (v := ?vr4_1_31) rfl (by kernel_rfl) (by kernel_rfl) (by kernel_rfl) ?hqr4_1_31 (Or.inl ⟨by kernel_rfl, ?hyr4_1_31⟩) (by assumption) ?restr4_1_31
        case hqr4_1_31 => exact fun _ _ _ h => h
        case hyr4_1_31 => (intro w hSw; (try dsimp only at hSw); go_simp; try with_reducible rfl)
        try simp only [Act.put, List.getElem_toArray, List.getElem_cons_succ, List.getElem_cons_zero, List.setIfInBounds_toArray, List.set_cons_zero, List.set_cons_succ]
        refine wpAnyH_take (i := 32) (oi := _) (v := ?vr4_1_32) rfl (by kernel_rfl) (by kernel_rfl) (by kernel_rfl) ?hqr4_1_32 (Or.inl ⟨by kernel_rfl, ?hyr4_1_32⟩) (by assumption) ?restr4_1_32
        case hqr4_1_32 => exact fun _ _ _ h => h
        case hyr4_1_32 => (intro w hSw; (try dsimp only at hSw); go_simp; try with_reducible rfl)
        try simp only [Act.put, List.getElem_toArray, List.getElem_cons_succ, List.getElem_cons_zero, List.setIfInBounds_toArray, List.set_cons_zero, List.set_cons_succ]
        refine wpAnyH_take (i := 33) (oi := _) (v := ?vr4_1_33) rfl (by kernel_rfl) (by kernel_rfl) (by kernel_rfl) ?hqr4_1_33 (Or.inl ⟨by kernel_rfl, ?hyr4_1_33⟩) (by assumption) ?restr4_1_33
        case hqr4_1_33 => exact fun _ _ _ h => h
        case hyr4_1_33 => (intro w hSw; (try dsimp only at hSw); go_simp; try with_reducible rfl)
        try simp only [Act.put, List.getElem_toArray, List.getElem_cons_succ, List.getElem_cons_zero, List.setIfInBounds_toArray, List.set_cons_zero, List.set_cons_succ]
        refine wpAnyH_ready (rs := [34]) (by kernel_rfl) (by simp) ?_
        refine AllReadyH.cons (o := _) rfl (fun K hK => ?_) AllReadyH.nil
        go_simp
        (go_at_call 32; refine (HTP2.out _ (HB7.out.then_ (And.left (by assumption)))).mono ?_; rintro e w8 ⟨rfl, hb8⟩)
        try (go_wp2_with fail)
        refine hK.out _ _ ?_ (fun hHr4_6 => ?_)
        · (try dsimp only); (first | assumption | exact hS _ (Bel.refl _).drew | exact hS _ (Bel.then_ (And.left (by assumption)) hb8))
        clear hK K hHr4_5
        try simp only [Act.put, List.getElem_toArray, List.getElem_cons_succ, List.getElem_cons_zero, List.setIfInBounds_toArray, List.set_cons_zero, List.set_cons_succ]
        refine wpAnyH_ready (rs := [35]) (by kernel_rfl) (by simp) ?_
        refine AllReadyH.cons (o := _) rfl (fun K hK => ?_) AllReadyH.nil
        go_simp
        refine hK.out _ _ ?_ (fun hHr4_7 => ?_)
        · (try dsimp only); (first | assumption | exact hS _ (Bel.refl _).drew | exact hS _ (Bel.then_ (And.left (by assumption)) hb8))
        clear hK K hHr4_6
        try simp only [Act.put, List.getElem_toArray, List.getElem_cons_succ, List.getElem_cons_zero, List.setIfInBounds_toArray, List.set_cons_zero, List.set_cons_succ]
        refine wpAnyH_take (i := 36) (oi := _) (v := ?vr4_1_36) rfl (by kernel_rfl) (by kernel_rfl) (by kernel_rfl) ?hqr4_1_36 (Or.inl ⟨by kernel_rfl, ?hyr4_1_36⟩) (by assumption) ?restr4_1_36
        case hqr4_1_36 => exact fun _ _ _ h => h
        case hyr4_1_36 => (intro w hSw; (try dsimp only at hSw); go_simp; try with_reducible rfl)
        try simp only [Act.put, List.getElem_toArray, List.getElem_cons_succ, List.getElem_cons_zero, List.setIfInBounds_toArray, List.set_cons_zero, List.set_cons_succ]
        refine wpAnyH_take (i := 37) (oi := _) (v := ?vr4_1_37) rfl (by kernel_rfl) (by kernel_rfl) (by kernel_rfl) ?hqr4_1_37 (Or.inl ⟨by kernel_rfl, ?hyr4_1_37⟩) (by assumption) ?restr4_1_37
        case hqr4_1_37 => exact fun _ _ _ h => h
        case hyr4_1_37 => (intro w hSw; (try dsimp only at hSw); go_simp; try with_reducible rfl)
        try simp only [Act.put, List.getElem_toArray, List.getElem_cons_succ, List.getElem_cons_zero, List.setIfInBounds_toArray, List.set_cons_zero, List.set_cons_succ]
        refine wpAnyH_done (by kernel_rfl) ?_ _
        refine NoPanic.normal ?_
        have hfin := And.left (by assumption)
        exact ⟨_, _, _, _, _, _, _, _, _, _, _, _, _, _, _, _, _, _, _, _, _, _, _, _, _, _, _, _, _, _, _, _, _, _, _, _, _, rfl, rfl, hfin⟩
  rintro _ _ V ⟨z34, z35, z36, z37, z38, z39, z40, z41, z42, z43, z44, z45, z46, z47, z48, z49, z50, z51, z52, z53, z54, z55, z56, z57, z58, z59, z60, z61, z62, z63, z64, z65, z66, z67, z68, z69, z70, rfl, rfl, hbV⟩
  clear hS HTP2 HCK HTR HPL HTS HFW
  obtain ⟨f0, f1, f2, f3⟩ := HE.out
  have HBV := Lib.hid (HB7.out.then_ hbV)
  have HCV := Lib.hid (HC7.out.then_ hbV)
  have HDV := Lib.hid (HD7.out.then_ hbV)
  have HEV : Hid (V.cell? ⟨w6.heap.size, 0, none⟩ = some vc ∧ V.cell? ⟨w6.heap.size, 1, none⟩ = some vk ∧ V.cell? ⟨w6.heap.size, 2, none⟩ = some vu ∧ w6.heap.size < V.heap.size) := ⟨hbV.c f0, hbV.c f1, hbV.c f2, by have := hbV.size; omega⟩
  obtain ⟨-, -, -, -, hsV⟩ := HCL.out _ HCV.out
  clear hbV f0 f1 f2 f3 hs5 hs6 hw5 h56 hnb HE
  go_wp2_with fail
  refine wp_loop_rounds 3 ?_
  rw [rounds_succ]
  go_wp2_with fail
  obtain ⟨Wb, hWb⟩ : ∃ Wb, Wb = V.alloc (.cells #[.int .i64 0] 3) := ⟨_, rfl⟩
  rw [← hWb]
  have hbb : Bel V Wb := by rw [hWb]; exact (Bel.refl V).alloc _
  have e5 : Wb.cell? ⟨V.heap.size, 0, none⟩ = some (.int .i64 0) := by rw [hWb]; go_simp
  have hWs : Wb.heap.size = V.heap.size + 1 := by rw [hWb]; simp
  have hseq := scSets_seq 11 (by omega) (w₀ := w) (w := Wb) (B := w6.heap.size) (n₀ := V.heap.size + 1) vc vk vu cols key uq HSQ.out.1 HSQ.out.2.1 HSQ.out.2.2 (by have := (HBV.out.then_ hbb).size; omega) (HBV.out.then_ hbb) (by have := HEV.out.2.2.2; omega) (by omega) (hbb.c HEV.out.1) (hbb.c HEV.out.2.1) (hbb.c HEV.out.2.2.1) HUQ.out.1 (fun _ => HUQ.out.2)
  rw [← HL.out] at hseq
  have HBB := Lib.hid hbb
  have HWS := Lib.hid hWs
  clear hWb hbb
  refine wp_countr 12 (by omega) (gf := 66) (bd := #[]) (lb := #[.pointer (some ⟨w6.heap.size, 0, none⟩)]) rfl (enters_of Tryz.func66 (by kernel_rfl) rfl) hseq (by simp; have := HWS.out; omega) ((Below.refl _ _).alloc (by have := HWS.out; omega) _) (fun x vs W hE => by obtain ⟨v, e, _⟩ := hE; simp at e; rw [e]; rfl) (eset_own _)
    (V.heap.size + 1) (Nat.le_refl _) (by simp; have := HWS.out; omega) (by rw [show V.heap.size + 1 = Wb.heap.size by have := HWS.out; omega]; go_simp) (by rw [show V.heap.size + 1 = Wb.heap.size by have := HWS.out; omega]; go_simp) 2 (fun j => decide ((j : Int) ≥ many)) ?round (fun _ _ h => h) ?out
  case round =>
    clear hseq
    intro lp x vs W hE
    obtain ⟨u, hvs, hin⟩ := hE
    dsimp only at hvs hin
    subst hvs
    gi_wp2
    refine ⟨(by first | rfl | trivial), fun lp k Wr hx hlp hEb hgW hcn hfn => ?_⟩
    obtain ⟨l, hl, rfl⟩ := zip_at hx
    obtain ⟨u2, hvs2, hin2⟩ := hEb
    have huu : u2 = u := by simp at hvs2; exact hvs2.symm
    subst huu
    have hlt := (List.getElem?_eq_some_iff.1 hl).1
    have hbr : Bel Wb Wr := Bel.of_alloc' hgW (by have := HWS.out; omega)
    have hbr5 := (HDV.out.then_ HBB.out).then_ hbr
    obtain ⟨⟨-, -, -⟩, m1, r1, r2, -⟩ := HCL.out _ ((HCV.out.then_ HBB.out).then_ hbr)
    have m2 := HWT.out _ hbr5
    have m5 := hbr.c e5
    obtain ⟨Aq, cq, eq, _, hmv, hvi⟩ := HV.out
    injection eq with e1 e2 e3
    subst e1 e3
    obtain ⟨bv, ov, rfl, hvj⟩ := hvi (by omega)
    obtain ⟨uw, huw, hiw⟩ := hvj k l hl
    have hb5r : Bel w5 Wr := ((Bel.refl w5).alloc _).then_ hbr5
    have m6 := hb5r.c huw
    have HEQ := Lib.hid (tInts3_any u2 uw l l Wr hin2 (hiw.bel hb5r))
    rw [decide_eq_true rfl] at HEQ
    have hkk : ((k : Int) != k) = false := by simp
    have hge : decide (L.length ≤ k) = false := by simp; omega
    have hLI : (L.length : Int) ≤ 9223372036854775807 := by unfold maxLen at hmv; omega
    have hkI : (k : Int) < L.length := by omega
    have HGW := Lib.hid hgW
    have HBR := Lib.hid hbr
    clear hvi hvj huw hiw hb5r hvs2 hin hin2 hx hl hgW hbr hbr5 e2 hmv hlt
    dsimp only
    gi_wp2_with fail
    refine ⟨trivial, ((callsIn_wide.2 HEQ.out).inRound lp).mono ?_⟩
    rintro e w8 ⟨rfl, hb8⟩
    have q1 := hb8.c m1
    have q5 := hb8.c m5
    have q8 := hb8.c hcn
    have g8 := hb8.f hcn hfn
    have HG9 : Hid (Wr.grownBy (w8.setCell ⟨V.heap.size + 1, 0, none⟩ (.int .i64 ((k : Int) + 1))) (some (V.heap.size + 1))) := grown_trans (Bel.grown hb8 _) (grown_setCell _ _ _)
    clear hb8 m1 m2 m5 m6 r1 r2 hcn hfn hkk hge
    by_cases hmy : many ≤ (k : Int) + 1
    · gi_wp2
      exact HG9.out
    · have hmyb : decide (many ≤ (k : Int) + 1) = false := by simpa using hmy
      gi_wp2
      exact HG9.out
  case out =>
    clear hseq
    intro D k W hcnt hD hgW hcn hdf
    have hk := hcnt.upto
    rw [List.length_zipIdx] at hk
    have hbW : Bel Wb W := Bel.of_alloc' hgW (by have := HWS.out; omega)
    obtain ⟨⟨-, -, -⟩, m1, r1, r2, -⟩ := HCL.out _ ((HCV.out.then_ HBB.out).then_ hbW)
    have m2 := HWT.out _ ((HDV.out.then_ HBB.out).then_ hbW)
    have m5 := hbW.c e5
    have HDF := Lib.hid hdf
    have HBb := Lib.hid hbW
    have hL1 : (L.length : Int) ≤ 9223372036854775807 := by
      obtain ⟨Aq, cq, eq, hq, hmv, hvi⟩ := HV.out
      unfold maxLen at hmv
      omega
    have hk1 : (k : Int) ≤ L.length := by omega
    have hk2 : (k : Int) ≤ max 1 many := by omega
    have hk3 : (L.length : Int) ≤ k ∨ max 1 many ≤ (k : Int) := by omega
    clear hgW hbW hcnt hk hdf e5
    have hmx := ite_max
    have hmn := ite_min
    have hb1 : ((k : Int) != min (L.length : Int) (max 1 many)) = false := by rw [bne_eq_false_iff_eq]; omega
    have hb2 : ((k : Int) == min (L.length : Int) (max 1 many)) = true := by rw [beq_iff_eq]; omega
    go_wp2_with fail
    all_goals
      clear hmx hmn hb1 hb2 hk1 hk2 hk3 hcn
      rw [rounds_succ]
      go_wp2_with fail
      obtain ⟨Wc, hWc⟩ : ∃ Wc, Wc = W.alloc (.cells #[.int .i64 1] 3) := ⟨_, rfl⟩
      rw [← hWc]
      have hbb : Bel W Wc := by rw [hWc]; exact (Bel.refl W).alloc _
      have e5 : Wc.cell? ⟨W.heap.size, 0, none⟩ = some (.int .i64 1) := by rw [hWc]; go_simp
      have hWs : Wc.heap.size = W.heap.size + 1 := by rw [hWc]; simp
      have hbVc : Bel V Wc := (HBB.out.then_ HBb.out).then_ hbb
      have hDW : D < W.heap.size := (Array.getElem?_eq_some_iff.1 HDF.out).1
      have HDC : Hid (Wc.heap[D]? = some (.deferred (some []))) := (hbb.block D hDW).trans HDF.out
      have hseq := scSets_seq 11 (by omega) (w₀ := w) (w := Wc) (B := w6.heap.size) (n₀ := W.heap.size + 1) vc vk vu cols key uq HSQ.out.1 HSQ.out.2.1 HSQ.out.2.2 (by have := (HBV.out.then_ hbVc).size; omega) (HBV.out.then_ hbVc) (by have := HEV.out.2.2.2; have := (HBB.out.then_ HBb.out).size; omega) (by omega) (hbVc.c HEV.out.1) (hbVc.c HEV.out.2.1) (hbVc.c HEV.out.2.2.1) HUQ.out.1 (fun _ => HUQ.out.2)
      rw [← HL.out] at hseq
      have HBC := Lib.hid hbVc
      have HWC := Lib.hid hWs
      have hsV2 : w.heap.size + 3 ≤ W.heap.size := by have := (HBB.out.then_ HBb.out).size; omega
      clear hWc hbb hbVc m1 m2 m5 r1 r2
      refine wp_countr 12 (by omega) (gf := 66) (bd := #[]) (lb := #[.pointer (some ⟨w6.heap.size, 0, none⟩)]) rfl (enters_of Tryz.func66 (by kernel_rfl) rfl) hseq (by simp; have := HWC.out; omega) ((Below.refl _ _).alloc (by have := HWC.out; omega) _) (fun x vs W hE => by obtain ⟨v, e, _⟩ := hE; simp at e; rw [e]; rfl) (eset_own _)
        (W.heap.size + 1) (Nat.le_refl _) (by simp; have := HWC.out; omega) (by rw [show W.heap.size + 1 = Wc.heap.size by have := HWC.out; omega]; go_simp) (by rw [show W.heap.size + 1 = Wc.heap.size by have := HWC.out; omega]; go_simp) 2 (fun _ => false) ?round2 (fun _ _ h => h) ?out2
      case round2 =>
        clear hseq
        intro lp x vs W' hE
        obtain ⟨u, hvs, hin⟩ := hE
        dsimp only at hvs hin
        subst hvs
        gi_wp2
        refine ⟨(by first | rfl | trivial), fun lp k Wr hx hlp hEb hgW hcn hfn => ?_⟩
        obtain ⟨l, hl, rfl⟩ := zip_at hx
        obtain ⟨u2, hvs2, hin2⟩ := hEb
        have huu : u2 = u := by simp at hvs2; exact hvs2.symm
        subst huu
        have hlt := (List.getElem?_eq_some_iff.1 hl).1
        have hbr : Bel Wc Wr := Bel.of_alloc' hgW (by have := HWC.out; omega)
        have hbr5 := (HDV.out.then_ HBC.out).then_ hbr
        obtain ⟨⟨-, -, -⟩, m1, r1, r2, -⟩ := HCL.out _ ((HCV.out.then_ HBC.out).then_ hbr)
        have m2 := HWT.out _ hbr5
        have m5 := hbr.c e5
        obtain ⟨Aq, cq, eq, _, hmv, hvi⟩ := HV.out
        injection eq with e1 e2 e3
        subst e1 e3
        obtain ⟨bv, ov, rfl, hvj⟩ := hvi (by omega)
        obtain ⟨uw, huw, hiw⟩ := hvj k l hl
        have hb5r : Bel w5 Wr := ((Bel.refl w5).alloc _).then_ hbr5
        have m6 := hb5r.c huw
        have HEQ := Lib.hid (tInts3_any u2 uw l l Wr hin2 (hiw.bel hb5r))
        rw [decide_eq_true rfl] at HEQ
        have hkk : ((k : Int) != k) = false := by simp
        have hge : decide (L.length ≤ k) = false := by simp; omega
        have hkI : (k : Int) < L.length := by omega
        clear hvi hvj huw hiw hb5r hvs2 hin hin2 hx hl hgW hbr hbr5 e2 hmv hlt
        dsimp only
        gi_wp2_with fail
        refine ⟨trivial, ((callsIn_wide.2 HEQ.out).inRound lp).mono ?_⟩
        rintro e w8 ⟨rfl, hb8⟩
        have q1 := hb8.c m1
        have q5 := hb8.c m5
        have q8 := hb8.c hcn
        have g8 := hb8.f hcn hfn
        have HG9 : Hid (Wr.grownBy (w8.setCell ⟨W.heap.size + 1, 0, none⟩ (.int .i64 ((k : Int) + 1))) (some (W.heap.size + 1))) := grown_trans (Bel.grown hb8 _) (grown_setCell _ _ _)
        clear hb8 m1 m2 m5 m6 r1 r2 hcn hfn hkk hge
        gi_wp2
        all_goals exact HG9.out
      case out2 =>
        clear hseq
        intro D' k' W' hcnt hD' hgW hcn hdf
        have hk := hcnt.all
        rw [List.length_zipIdx] at hk
        have hbW : Bel Wc W' := Bel.of_alloc' hgW (by have := HWC.out; omega)
        obtain ⟨⟨-, -, -⟩, m1, r1, r2, -⟩ := HCL.out _ ((HCV.out.then_ HBC.out).then_ hbW)
        have m2 := HWT.out _ ((HDV.out.then_ HBC.out).then_ hbW)
        have m5 := hbW.c e5
        have HDF1 : Hid (W'.heap[D]? = some (.deferred (some []))) := (hbW.block D (Array.getElem?_eq_some_iff.1 HDC.out).1).trans HDC.out
        have HDF2 := Lib.hid hdf
        have HB2 := Lib.hid ((HBV.out.then_ HBC.out).then_ hbW)
        have HC2 := Lib.hid ((HCV.out.then_ HBC.out).then_ hbW)
        have hkk : ((k' : Int) != L.length) = false := by rw [bne_eq_false_iff_eq]; omega
        clear hgW hbW hcnt hdf e5 hk
        go_wp2_with fail
        all_goals
          clear hkk hcn m2 m5
          rw [rounds_succ]
          go_wp2_with fail
          have hba : Bel W' (W'.alloc (.cells #[.int .i64 2] 3)) := (Bel.refl _).alloc _
          refine (HW.out _ (HB2.out.then_ hba)).mono ?_
          rintro e w99 ⟨rfl, hb99⟩
          obtain ⟨-, -, r1, r2, -⟩ := HCL.out _ ((HC2.out.then_ hba).then_ hb99)
          have q1 : w99.heap[D]? = some (.deferred (some [])) := hb99.deferred (hba.deferred HDF1.out)
          have q2 : w99.heap[D']? = some (.deferred (some [])) := hb99.deferred (hba.deferred HDF2.out)
          have q3 : Bel w w99 := (HB2.out.then_ hba).then_ hb99
          have hne : D ≠ D' := fun e => by have := (Array.getElem?_eq_some_iff.1 HDC.out).1; simp at hD'; omega
          have hDw : w.heap.size ≤ D := by simp at hD; have := HWS.out; omega
          have hDw' : w.heap.size ≤ D' := by simp at hD'; have := HWC.out; omega
          clear hba hnf
          go_wp2
          refine leavesM_collected (D := D') (heap_setCell_deferred _ _ q2) (leavesM_collected (D := D) (putObj_deferred (heap_setCell_deferred _ _ q1) hne _) (leavesM_nil ?_ ⟨rfl, ?_⟩))
          · have hc : (w99.setCell ⟨w.heap.size + 1 + 1, 0, none⟩ (.bool true)).cell? ⟨w.heap.size + 1 + 1, 0, none⟩ = some (.bool true) := by go_simp
            have hc2 := cell_putDeferred (cell_putDeferred hc (heap_setCell_deferred ⟨w.heap.size + 1 + 1, 0, none⟩ (.bool true) q2) (.deferred none)) (putObj_deferred (heap_setCell_deferred ⟨w.heap.size + 1 + 1, 0, none⟩ (.bool true) q1) hne (.deferred none)) (.deferred none)
            simp [results, Tryz.results8, go_sem, hc2]
          · exact ((q3.setCell (by simp; omega) _).putObj hDw' _).putObj hDw _
end Go.Proofs.YtkklmflclmgjeaaGreatDoor
