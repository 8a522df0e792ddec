/-
  SchemaSame, its walk.
-/
import Derived.Test.YtkklmflclmgjeaaGreatDoorSz2
import Derived.Test.YtkklmflclmgjeaaGreatDoorSw
set_option linter.unusedVariables false
set_option linter.unusedSimpArgs false
set_option linter.unusedVariables false
set_option linter.unusedSimpArgs false
namespace Go.Proofs.YtkklmflclmgjeaaGreatDoor
open Go.RowKit Go.Shelf Go.Lib
attribute [local go_sem] Oper.semAt_some

theorem sameS_comm (a b : List Col) (ka kb : List Int) (ua ub : List (List Int)) : sameS b a kb ka ub ua = sameS a b ka kb ua ub := by
  unfold sameS
  rw [decide_eq_decide.2 (show b = a ↔ a = b from eq_comm), decide_eq_decide.2 (show kb = ka ↔ ka = kb from eq_comm), decide_eq_decide.2 (show ub = ua ↔ ua = ub from eq_comm)]
theorem sameS_refl (a : List Col) (ka : List Int) (ua : List (List Int)) : sameS a a ka ka ua ua = true := by
  unfold sameS
  simp
set_option maxRecDepth 100000 in
set_option maxHeartbeats 8000000 in
theorem mSame_any (va vka vua vb vkb vub : Value) (a b : List Col) (ka kb : List Int) (ua ub : List (List Int)) (w : World) (hg : ErrType w) (ha : ColsAt w va a) (hka : IntsAt w vka ka) (hua : ListsAt w vua ua) (hb : ColsAt w vb b) (hkb : IntsAt w vkb kb) (hub : ListsAt w vub ub)
    (hna : ∀ c ∈ a, c.name.size ≤ maxLen) (hnb : ∀ c ∈ b, c.name.size ≤ maxLen) : Calls Tryz.prog 7 #[.agg #[va, vka, vua], .agg #[vb, vkb, vub]] w fun e w' => e = .returned (.bool true) ∧ Bel w w' := by
  have hb0 : Bel w ((w.alloc (.cells #[va, vka, vua] 26)).alloc (.cells #[vb, vkb, vub] 26)) := ((Bel.refl w).alloc _).alloc _
  have HFA := Lib.hid (fun V (h : Bel w V) => mfew_any va vka vua a ka ua V (ha.bel h) (hka.bel h) (hua.bel h) hna)
  have HFB := Lib.hid (fun V (h : Bel w V) => mfew_any vb vkb vub b kb ub V (hb.bel h) (hkb.bel h) (hub.bel h) hnb)
  have HW := Lib.hid (fun V (h : Bel w V) => mworks_any V (hg.bel h))
  have HS := Lib.hid (fun V (h : Bel w V) => scSame_any va vka vua vb vkb vub a b ka kb ua ub V (ha.bel h) (hka.bel h) (hua.bel h) (hb.bel h) (hkb.bel h) (hub.bel h))
  have HT := Lib.hid (fun V (h : Bel w V) => tSame_any va vka vua vb vkb vub a b ka kb ua ub V (ha.bel h) (hka.bel h) (hua.bel h) (hb.bel h) (hkb.bel h) (hub.bel h))
  have HS2 := Lib.hid (fun V (h : Bel w V) => scSame_any vb vkb vub va vka vua b a kb ka ub ua V (hb.bel h) (hkb.bel h) (hub.bel h) (ha.bel h) (hka.bel h) (hua.bel h))
  have HS3 := Lib.hid (fun V (h : Bel w V) => scSame_any va vka vua va vka vua a a ka ka ua ua V (ha.bel h) (hka.bel h) (hua.bel h) (ha.bel h) (hka.bel h) (hua.bel h))
  simp only [sameS_comm a b ka kb ua ub] at HS2
  simp only [sameS_refl] at HS3
  have hS : ∀ V, Bel ((w.alloc (.cells #[va, vka, vua] 26)).alloc (.cells #[vb, vkb, vub] 26)) V → (fun V : World => Bel ((w.alloc (.cells #[va, vka, vua] 26)).alloc (.cells #[vb, vkb, vub] 26)) V ∧ V.cell? ⟨w.heap.size, 0, none⟩ = some va ∧ V.cell? ⟨w.heap.size, 1, none⟩ = some vka ∧ V.cell? ⟨w.heap.size, 2, none⟩ = some vua ∧ V.cell? ⟨w.heap.size + 1, 0, none⟩ = some vb ∧ V.cell? ⟨w.heap.size + 1, 1, none⟩ = some vkb ∧ V.cell? ⟨w.heap.size + 1, 2, none⟩ = some vub) V :=
    fun V h => ⟨h, h.c (by go_simp), h.c (by go_simp), h.c (by go_simp), h.c (by go_simp), h.c (by go_simp), h.c (by go_simp)⟩
  have HSS := Lib.hid hS
  clear hg ha hka hua hb hkb hub hna hnb hS
  generalize sameS a b ka kb ua ub = R at *
  have hrr : (R == R) = true := by simp
  cases hf : fewB a ka ua
  · rw [hf] at HFA
    clear hf
    go_enter Tryz.func7, Tryz.ntmps7
    go_wp2_with (first | (go_at_call 14; refine (HFA.out _ hb0).mono ?_; rintro e w4 ⟨rfl, hb4⟩) | (go_at_call 16; refine (HW.out _ (hb0.then_ hb4)).mono ?_; rintro e w9 ⟨rfl, hb9⟩))
    go_ret
    exact ⟨rfl, (hb0.then_ hb4).then_ hb9⟩
  rw [hf] at HFA
  clear hf
  cases hf : fewB b kb ub
  · rw [hf] at HFB
    clear hf
    go_enter Tryz.func7, Tryz.ntmps7
    go_wp2_with fail
    refine (HFA.out _ hb0).mono ?_
    rintro e w4 ⟨rfl, hb4⟩
    obtain ⟨-, c0, c1, c2, d0, d1, d2⟩ := HSS.out _ hb4
    have hb5 := hb0.then_ hb4
    go_wp2_with fail
    refine (HFB.out _ hb5).mono ?_
    rintro e w6 ⟨rfl, hb6⟩
    go_wp2_with fail
    refine (HW.out _ (hb5.then_ hb6)).mono ?_
    rintro e w9 ⟨rfl, hb9⟩
    go_wp2_with fail
    go_ret
    exact ⟨rfl, (hb5.then_ hb6).then_ hb9⟩
  rw [hf] at HFB
  clear hf
  go_enter Tryz.func7, Tryz.ntmps7
  go_wp2_with fail
  refine (HFA.out _ hb0).mono ?_
  rintro e w4 ⟨rfl, hb4⟩
  obtain ⟨-, c0, c1, c2, d0, d1, d2⟩ := HSS.out _ hb4
  have hb5 := hb0.then_ hb4
  go_wp2_with fail
  refine (HFB.out _ hb5).mono ?_
  rintro e w6 ⟨rfl, hb6⟩
  go_wp2_with fail
  clear c0 c1 c2 d0 d1 d2
  have hb7 := hb4.then_ hb6
  have hS := HSS.out
  refine wp_region_noPanic ?_
  refine wp_region_held_drew (S := (fun V : World => Bel ((w.alloc (.cells #[va, vka, vua] 26)).alloc (.cells #[vb, vkb, vub] 26)) V ∧ V.cell? ⟨w.heap.size, 0, none⟩ = some va ∧ V.cell? ⟨w.heap.size, 1, none⟩ = some vka ∧ V.cell? ⟨w.heap.size, 2, none⟩ = some vua ∧ V.cell? ⟨w.heap.size + 1, 0, none⟩ = some vb ∧ V.cell? ⟨w.heap.size + 1, 1, none⟩ = some vkb ∧ V.cell? ⟨w.heap.size + 1, 2, none⟩ = some vub)) (by kernel_rfl) ?_ (fun hHr1_0 => ?_)
  · (try dsimp only); (first | assumption | exact hS _ hb7.drew | exact hS _ (Bel.then_ (And.left (by assumption)) hb8))
  refine wpAnyH_take (i := 0) (oi := _) (v := ?vr1_1_0) rfl (by kernel_rfl) (by kernel_rfl) (by kernel_rfl) ?hqr1_1_0 (Or.inl ⟨by kernel_rfl, ?hyr1_1_0⟩) (by assumption) ?restr1_1_0
  case hqr1_1_0 => exact fun _ _ _ h => h
  case hyr1_1_0 => (intro w hSw; (try dsimp only at hSw); go_simp; try with_reducible rfl)
  try simp only [Act.put, List.getElem_toArray, List.getElem_cons_succ, List.getElem_cons_zero, List.setIfInBounds_toArray, List.set_cons_zero, List.set_cons_succ]
  refine wpAnyH_take (i := 1) (oi := _) (v := ?vr1_1_1) rfl (by kernel_rfl) (by kernel_rfl) (by kernel_rfl) ?hqr1_1_1 (Or.inl ⟨by kernel_rfl, ?hyr1_1_1⟩) (by assumption) ?restr1_1_1
  case hqr1_1_1 => exact fun _ _ _ h => h
  case hyr1_1_1 => (intro w hSw; (try dsimp only at hSw); go_simp; try with_reducible rfl)
  try simp only [Act.put, List.getElem_toArray, List.getElem_cons_succ, List.getElem_cons_zero, List.setIfInBounds_toArray, List.set_cons_zero, List.set_cons_succ]
  refine wpAnyH_take (i := 3) (oi := _) (v := ?vr1_1_3) rfl (by kernel_rfl) (by kernel_rfl) (by kernel_rfl) ?hqr1_1_3 (Or.inl ⟨by kernel_rfl, ?hyr1_1_3⟩) (by assumption) ?restr1_1_3
  case hqr1_1_3 => exact fun _ _ _ h => h
  case hyr1_1_3 => (intro w hSw; (try dsimp only at hSw); go_simp; try with_reducible rfl)
  try simp only [Act.put, List.getElem_toArray, List.getElem_cons_succ, List.getElem_cons_zero, List.setIfInBounds_toArray, List.set_cons_zero, List.set_cons_succ]
  refine wpAnyH_take (i := 4) (oi := _) (v := ?vr1_1_4) rfl (by kernel_rfl) (by kernel_rfl) (by kernel_rfl) ?hqr1_1_4 (Or.inl ⟨by kernel_rfl, ?hyr1_1_4⟩) (by assumption) ?restr1_1_4
  case hqr1_1_4 => exact fun _ _ _ h => h
  case hyr1_1_4 => (intro w hSw; (try dsimp only at hSw); go_simp; try with_reducible rfl)
  try simp only [Act.put, List.getElem_toArray, List.getElem_cons_succ, List.getElem_cons_zero, List.setIfInBounds_toArray, List.set_cons_zero, List.set_cons_succ]
  refine wpAnyH_ready (rs := [2]) (by kernel_rfl) (by simp) ?_
  refine AllReadyH.cons (o := _) rfl (fun K hK => ?_) AllReadyH.nil
  go_simp
  (go_at_call 26; refine (HS.out _ (hb0.then_ (And.left (by assumption)))).mono ?_; rintro e w8 ⟨rfl, hb8⟩)
  try (go_wp2_with fail)
  refine hK.out _ _ ?_ (fun hHr1_1 => ?_)
  · (try dsimp only); (first | assumption | exact hS _ hb7.drew | exact hS _ (Bel.then_ (And.left (by assumption)) hb8))
  clear hK K hHr1_0
  try simp only [Act.put, List.getElem_toArray, List.getElem_cons_succ, List.getElem_cons_zero, List.setIfInBounds_toArray, List.set_cons_zero, List.set_cons_succ]
  refine wpAnyH_ready (rs := [5]) (by kernel_rfl) (by simp) ?_
  refine AllReadyH.cons (o := _) rfl (fun K hK => ?_) AllReadyH.nil
  go_simp
  (go_at_call 27; refine (HT.out _ (hb0.then_ (And.left (by assumption)))).mono ?_; rintro e w8 ⟨rfl, hb8⟩)
  try (go_wp2_with fail)
  refine hK.out _ _ ?_ (fun hHr1_2 => ?_)
  · (try dsimp only); (first | assumption | exact hS _ hb7.drew | exact hS _ (Bel.then_ (And.left (by assumption)) hb8))
  clear hK K hHr1_1
  try simp only [Act.put, List.getElem_toArray, List.getElem_cons_succ, List.getElem_cons_zero, List.setIfInBounds_toArray, List.set_cons_zero, List.set_cons_succ]
  refine wpAnyH_take (i := 6) (oi := _) (v := ?vr1_1_6) rfl (by kernel_rfl) (by kernel_rfl) (by kernel_rfl) ?hqr1_1_6 (Or.inl ⟨by kernel_rfl, ?hyr1_1_6⟩) (by assumption) ?restr1_1_6
  case hqr1_1_6 => exact fun _ _ _ h => h
  case hyr1_1_6 => (intro w hSw; (try dsimp only at hSw); go_simp; try with_reducible rfl)
  try simp only [Act.put, List.getElem_toArray, List.getElem_cons_succ, List.getElem_cons_zero, List.setIfInBounds_toArray, List.set_cons_zero, List.set_cons_succ]
  refine wpAnyH_take (i := 7) (oi := _) (v := ?vr1_1_7) rfl (by kernel_rfl) (by kernel_rfl) (by kernel_rfl) ?hqr1_1_7 (Or.inl ⟨by kernel_rfl, ?hyr1_1_7⟩) (by assumption) ?restr1_1_7
  case hqr1_1_7 => exact fun _ _ _ h => h
  case hyr1_1_7 => (intro w hSw; (try dsimp only at hSw); go_simp; try with_reducible rfl)
  try simp only [Act.put, List.getElem_toArray, List.getElem_cons_succ, List.getElem_cons_zero, List.setIfInBounds_toArray, List.set_cons_zero, List.set_cons_succ]
  refine wpAnyH_take (i := 8) (oi := _) (v := ?vr1_1_8) rfl (by kernel_rfl) (by kernel_rfl) (by kernel_rfl) ?hqr1_1_8 (Or.inl ⟨by kernel_rfl, ?hyr1_1_8⟩) (by assumption) ?restr1_1_8
  case hqr1_1_8 => exact fun _ _ _ h => h
  case hyr1_1_8 => (intro w hSw; (try dsimp only at hSw); go_simp; try with_reducible rfl)
  try simp only [Act.put, List.getElem_toArray, List.getElem_cons_succ, List.getElem_cons_zero, List.setIfInBounds_toArray, List.set_cons_zero, List.set_cons_succ]
  refine wpAnyH_take (i := 9) (oi := _) (v := ?vr1_1_9) rfl (by kernel_rfl) (by kernel_rfl) (by kernel_rfl) ?hqr1_1_9 (Or.inl ⟨by kernel_rfl, ?hyr1_1_9⟩) (by assumption) ?restr1_1_9
  case hqr1_1_9 => exact fun _ _ _ h => h
  case hyr1_1_9 => (intro w hSw; (try dsimp only at hSw); go_simp; try with_reducible rfl)
  try simp only [Act.put, List.getElem_toArray, List.getElem_cons_succ, List.getElem_cons_zero, List.setIfInBounds_toArray, List.set_cons_zero, List.set_cons_succ]
  refine wpAnyH_take (i := 11) (oi := _) (v := ?vr1_1_11) rfl (by kernel_rfl) (by kernel_rfl) (by kernel_rfl) ?hqr1_1_11 (Or.inl ⟨by kernel_rfl, ?hyr1_1_11⟩) (by assumption) ?restr1_1_11
  case hqr1_1_11 => exact fun _ _ _ h => h
  case hyr1_1_11 => (intro w hSw; (try dsimp only at hSw); go_simp; try with_reducible rfl)
  try simp only [Act.put, List.getElem_toArray, List.getElem_cons_succ, List.getElem_cons_zero, List.setIfInBounds_toArray, List.set_cons_zero, List.set_cons_succ]
  refine wpAnyH_take (i := 12) (oi := _) (v := ?vr1_1_12) rfl (by kernel_rfl) (by kernel_rfl) (by kernel_rfl) ?hqr1_1_12 (Or.inl ⟨by kernel_rfl, ?hyr1_1_12⟩) (by assumption) ?restr1_1_12
  case hqr1_1_12 => exact fun _ _ _ h => h
  case hyr1_1_12 => (intro w hSw; (try dsimp only at hSw); go_simp; try with_reducible rfl)
  try simp only [Act.put, List.getElem_toArray, List.getElem_cons_succ, List.getElem_cons_zero, List.setIfInBounds_toArray, List.set_cons_zero, List.set_cons_succ]
  refine wpAnyH_ready (rs := [10]) (by kernel_rfl) (by simp) ?_
  refine AllReadyH.cons (o := _) rfl (fun K hK => ?_) AllReadyH.nil
  go_simp
  (go_at_call 26; refine (HS2.out _ (hb0.then_ (And.left (by assumption)))).mono ?_; rintro e w8 ⟨rfl, hb8⟩)
  try (go_wp2_with fail)
  refine hK.out _ _ ?_ (fun hHr1_3 => ?_)
  · (try dsimp only); (first | assumption | exact hS _ hb7.drew | exact hS _ (Bel.then_ (And.left (by assumption)) hb8))
  clear hK K hHr1_2
  try simp only [Act.put, List.getElem_toArray, List.getElem_cons_succ, List.getElem_cons_zero, List.setIfInBounds_toArray, List.set_cons_zero, List.set_cons_succ]
  refine wpAnyH_ready (rs := [13]) (by kernel_rfl) (by simp) ?_
  refine AllReadyH.cons (o := _) rfl (fun K hK => ?_) AllReadyH.nil
  go_simp
  (go_at_call 27; refine (HT.out _ (hb0.then_ (And.left (by assumption)))).mono ?_; rintro e w8 ⟨rfl, hb8⟩)
  try (go_wp2_with fail)
  refine hK.out _ _ ?_ (fun hHr1_4 => ?_)
  · (try dsimp only); (first | assumption | exact hS _ hb7.drew | exact hS _ (Bel.then_ (And.left (by assumption)) hb8))
  clear hK K hHr1_3
  try simp only [Act.put, List.getElem_toArray, List.getElem_cons_succ, List.getElem_cons_zero, List.setIfInBounds_toArray, List.set_cons_zero, List.set_cons_succ]
  refine wpAnyH_take (i := 14) (oi := _) (v := ?vr1_1_14) rfl (by kernel_rfl) (by kernel_rfl) (by kernel_rfl) ?hqr1_1_14 (Or.inl ⟨by kernel_rfl, ?hyr1_1_14⟩) (by assumption) ?restr1_1_14
  case hqr1_1_14 => exact fun _ _ _ h => h
  case hyr1_1_14 => (intro w hSw; (try dsimp only at hSw); go_simp; try with_reducible rfl)
  try simp only [Act.put, List.getElem_toArray, List.getElem_cons_succ, List.getElem_cons_zero, List.setIfInBounds_toArray, List.set_cons_zero, List.set_cons_succ]
  refine wpAnyH_take (i := 15) (oi := _) (v := ?vr1_1_15) rfl (by kernel_rfl) (by kernel_rfl) (by kernel_rfl) ?hqr1_1_15 (Or.inl ⟨by kernel_rfl, ?hyr1_1_15⟩) (by assumption) ?restr1_1_15
  case hqr1_1_15 => exact fun _ _ _ h => h
  case hyr1_1_15 => (intro w hSw; (try dsimp only at hSw); go_simp; try with_reducible rfl)
  try simp only [Act.put, List.getElem_toArray, List.getElem_cons_succ, List.getElem_cons_zero, List.setIfInBounds_toArray, List.set_cons_zero, List.set_cons_succ]
  refine wpAnyH_take (i := 16) (oi := _) (v := ?vr1_1_16) rfl (by kernel_rfl) (by kernel_rfl) (by kernel_rfl) ?hqr1_1_16 (Or.inl ⟨by kernel_rfl, ?hyr1_1_16⟩) (by assumption) ?restr1_1_16
  case hqr1_1_16 => exact fun _ _ _ h => h
  case hyr1_1_16 => (intro w hSw; (try dsimp only at hSw); go_simp; try with_reducible rfl)
  try simp only [Act.put, List.getElem_toArray, List.getElem_cons_succ, List.getElem_cons_zero, List.setIfInBounds_toArray, List.set_cons_zero, List.set_cons_succ]
  refine wpAnyH_take (i := 17) (oi := _) (v := ?vr1_1_17) rfl (by kernel_rfl) (by kernel_rfl) (by kernel_rfl) ?hqr1_1_17 (Or.inl ⟨by kernel_rfl, ?hyr1_1_17⟩) (by assumption) ?restr1_1_17
  case hqr1_1_17 => exact fun _ _ _ h => h
  case hyr1_1_17 => (intro w hSw; (try dsimp only at hSw); go_simp; try with_reducible rfl)
  try simp only [Act.put, List.getElem_toArray, List.getElem_cons_succ, List.getElem_cons_zero, List.setIfInBounds_toArray, List.set_cons_zero, List.set_cons_succ]
  refine wpAnyH_take (i := 18) (oi := _) (v := ?vr1_1_18) rfl (by kernel_rfl) (by kernel_rfl) (by kernel_rfl) ?hqr1_1_18 (Or.inl ⟨by kernel_rfl, ?hyr1_1_18⟩) (by assumption) ?restr1_1_18
  case hqr1_1_18 => exact fun _ _ _ h => h
  case hyr1_1_18 => (intro w hSw; (try dsimp only at hSw); go_simp; try with_reducible rfl)
  try simp only [Act.put, List.getElem_toArray, List.getElem_cons_succ, List.getElem_cons_zero, List.setIfInBounds_toArray, List.set_cons_zero, List.set_cons_succ]
  refine wpAnyH_ready (rs := [19]) (by kernel_rfl) (by simp) ?_
  refine AllReadyH.cons (o := _) rfl (fun K hK => ?_) AllReadyH.nil
  go_simp
  (go_at_call 26; refine (HS3.out _ (hb0.then_ (And.left (by assumption)))).mono ?_; rintro e w8 ⟨rfl, hb8⟩)
  try (go_wp2_with fail)
  refine hK.out _ _ ?_ (fun hHr1_5 => ?_)
  · (try dsimp only); (first | assumption | exact hS _ hb7.drew | exact hS _ (Bel.then_ (And.left (by assumption)) hb8))
  clear hK K hHr1_4
  try simp only [Act.put, List.getElem_toArray, List.getElem_cons_succ, List.getElem_cons_zero, List.setIfInBounds_toArray, List.set_cons_zero, List.set_cons_succ]
  refine wpAnyH_take (i := 20) (oi := _) (v := ?vr1_1_20) rfl (by kernel_rfl) (by kernel_rfl) (by kernel_rfl) ?hqr1_1_20 (Or.inl ⟨by kernel_rfl, ?hyr1_1_20⟩) (by assumption) ?restr1_1_20
  case hqr1_1_20 => exact fun _ _ _ h => h
  case hyr1_1_20 => (intro w hSw; (try dsimp only at hSw); go_simp; try with_reducible rfl)
  try simp only [Act.put, List.getElem_toArray, List.getElem_cons_succ, List.getElem_cons_zero, List.setIfInBounds_toArray, List.set_cons_zero, List.set_cons_succ]
  refine wpAnyH_take (i := 21) (oi := _) (v := ?vr1_1_21) rfl (by kernel_rfl) (by kernel_rfl) (by kernel_rfl) ?hqr1_1_21 (Or.inl ⟨by kernel_rfl, ?hyr1_1_21⟩) (by assumption) ?restr1_1_21
  case hqr1_1_21 => exact fun _ _ _ h => h
  case hyr1_1_21 => (intro w hSw; (try dsimp only at hSw); go_simp; try with_reducible rfl)
  try simp only [Act.put, List.getElem_toArray, List.getElem_cons_succ, List.getElem_cons_zero, List.setIfInBounds_toArray, List.set_cons_zero, List.set_cons_succ]
  refine wpAnyH_ready (rs := [22]) (by kernel_rfl) (by simp) ?_
  refine AllReadyH.cons (o := _) rfl (fun K hK => ?_) AllReadyH.nil
  go_simp
  (go_at_call 16; refine (HW.out _ (hb0.then_ (And.left (by assumption)))).mono ?_; rintro e w8 ⟨rfl, hb8⟩)
  try (go_wp2_with fail)
  refine hK.out _ _ ?_ (fun hHr1_6 => ?_)
  · (try dsimp only); (first | assumption | exact hS _ hb7.drew | exact hS _ (Bel.then_ (And.left (by assumption)) hb8))
  clear hK K hHr1_5
  try simp only [Act.put, List.getElem_toArray, List.getElem_cons_succ, List.getElem_cons_zero, List.setIfInBounds_toArray, List.set_cons_zero, List.set_cons_succ]
  refine wpAnyH_take (i := 23) (oi := _) (v := ?vr1_1_23) rfl (by kernel_rfl) (by kernel_rfl) (by kernel_rfl) ?hqr1_1_23 (Or.inl ⟨by kernel_rfl, ?hyr1_1_23⟩) (by assumption) ?restr1_1_23
  case hqr1_1_23 => exact fun _ _ _ h => h
  case hyr1_1_23 => (intro w hSw; (try dsimp only at hSw); go_simp; try with_reducible rfl)
  try simp only [Act.put, List.getElem_toArray, List.getElem_cons_succ, List.getElem_cons_zero, List.setIfInBounds_toArray, List.set_cons_zero, List.set_cons_succ]
  refine wpAnyH_take (i := 24) (oi := _) (v := ?vr1_1_24) rfl (by kernel_rfl) (by kernel_rfl) (by kernel_rfl) ?hqr1_1_24 (Or.inl ⟨by kernel_rfl, ?hyr1_1_24⟩) (by assumption) ?restr1_1_24
  case hqr1_1_24 => exact fun _ _ _ h => h
  case hyr1_1_24 => (intro w hSw; (try dsimp only at hSw); go_simp; try with_reducible rfl)
  try simp only [Act.put, List.getElem_toArray, List.getElem_cons_succ, List.getElem_cons_zero, List.setIfInBounds_toArray, List.set_cons_zero, List.set_cons_succ]
  refine wpAnyH_done (by kernel_rfl) ?_ _
  refine NoPanic.normal ?_
  have hfin := hb0.then_ (And.left (by assumption))
  go_wp2
  go_ret
  exact ⟨rfl, hfin⟩
end Go.Proofs.YtkklmflclmgjeaaGreatDoor
