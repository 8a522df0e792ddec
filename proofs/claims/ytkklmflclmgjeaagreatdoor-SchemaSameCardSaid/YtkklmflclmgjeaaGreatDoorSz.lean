/-
  Schema: Same, by the code and by the document.
-/
import Derived.Test.YtkklmflclmgjeaaGreatDoorSy3
import Derived.Test.YtkklmflclmgjeaaGreatDoorSy2
set_option linter.unusedVariables false
set_option linter.unusedSimpArgs false
set_option linter.unusedVariables false
set_option linter.unusedSimpArgs false
namespace Go.Proofs.YtkklmflclmgjeaaGreatDoor
open Go.RowKit Go.Shelf Go.Lib
attribute [local go_sem] Oper.semAt_some

theorem scsame_any (va vb : Value) (a b : List (List Int)) (w : World) (ha : ListsAt w va a) (hb : ListsAt w vb b) : Calls Tryz.prog 63 #[va, vb, .func (.func 62) #[] #[]] w fun e w' => e = .returned (.bool (decide (a = b))) ∧ Bel w w' := by
  have H := Lib.hid (slEqualFuncInts_any va vb a b w ha hb)
  clear ha hb
  generalize decide (a = b) = R at *
  go_enter Tryz.func63, Tryz.ntmps63
  go_wp2_with (go_at_call 107; refine H.out.mono ?_; rintro e w4 ⟨rfl, hb4⟩)
  go_ret
  exact ⟨rfl, hb4⟩
def sameS (a b : List Col) (ka kb : List Int) (ua ub : List (List Int)) : Bool := decide (a = b) && (decide (ka = kb) && decide (ua = ub))
set_option maxRecDepth 100000 in
set_option maxHeartbeats 4000000 in
theorem scSame_any (va vka vua vb vkb vub : Value) (a b : List Col) (ka kb : List Int) (ua ub : List (List Int)) (w : World) (ha : ColsAt w va a) (hka : IntsAt w vka ka) (hua : ListsAt w vua ua) (hb : ColsAt w vb b) (hkb : IntsAt w vkb kb) (hub : ListsAt w vub ub) :
    Calls Tryz.prog 26 #[.agg #[va, vka, vua], .agg #[vb, vkb, vub]] w fun e w' => e = .returned (.bool (sameS a b ka kb ua ub)) ∧ Bel w w' := by
  have HA := Lib.hid (fun V (h : Bel w V) => slEqualCol_any va vb a b V (ha.bel h) (hb.bel h))
  have HK := Lib.hid (fun V (h : Bel w V) => slEqualInt_any vka vkb ka kb V (hka.bel h) (hkb.bel h))
  have HU := Lib.hid (fun V (h : Bel w V) => scsame_any vua vub ua ub V (hua.bel h) (hub.bel h))
  have hb0 : Bel w ((w.alloc (.cells #[va, vka, vua] 26)).alloc (.cells #[vb, vkb, vub] 26)) := ((Bel.refl w).alloc _).alloc _
  have HCL : Hid (∀ V, Bel ((w.alloc (.cells #[va, vka, vua] 26)).alloc (.cells #[vb, vkb, vub] 26)) V → V.cell? ⟨w.heap.size, 1, none⟩ = some vka ∧ V.cell? ⟨w.heap.size, 2, none⟩ = some vua ∧ V.cell? ⟨w.heap.size + 1, 1, none⟩ = some vkb ∧ V.cell? ⟨w.heap.size + 1, 2, none⟩ = some vub) :=
    fun V h => ⟨h.c (by go_simp), h.c (by go_simp), h.c (by go_simp), h.c (by go_simp)⟩
  unfold sameS
  clear ha hka hua hb hkb hub
  generalize decide (a = b) = ra at *
  generalize decide (ka = kb) = rk at *
  generalize decide (ua = ub) = ru at *
  cases ra
  · go_enter Tryz.func26, Tryz.ntmps26
    go_wp2_with (go_at_call 61; refine (HA.out _ hb0).mono ?_; rintro e w4 ⟨rfl, hb4⟩)
    go_ret
    exact ⟨rfl, hb0.then_ hb4⟩
  · cases rk
    · go_enter Tryz.func26, Tryz.ntmps26
      go_wp2_with (go_at_call 61; refine (HA.out _ hb0).mono ?_; rintro e w4 ⟨rfl, hb4⟩; obtain ⟨c1, c2, c3, c4⟩ := HCL.out _ hb4; have hb5 := hb0.then_ hb4)
      go_wp2_with (go_at_call 62; refine (HK.out _ hb5).mono ?_; rintro e w6 ⟨rfl, hb6⟩)
      go_ret
      exact ⟨rfl, hb5.then_ hb6⟩
    · go_enter Tryz.func26, Tryz.ntmps26
      go_wp2_with (go_at_call 61; refine (HA.out _ hb0).mono ?_; rintro e w4 ⟨rfl, hb4⟩; obtain ⟨c1, c2, c3, c4⟩ := HCL.out _ hb4; have hb5 := hb0.then_ hb4)
      go_wp2_with (go_at_call 62; refine (HK.out _ hb5).mono ?_; rintro e w6 ⟨rfl, hb6⟩; obtain ⟨d1, d2, d3, d4⟩ := HCL.out _ (hb4.then_ hb6); have hb7 := hb5.then_ hb6)
      go_wp2_with (go_at_call 63; refine (HU.out _ hb7).mono ?_; rintro e w8 ⟨rfl, hb8⟩)
      go_ret
      exact ⟨by cases ru <;> rfl, hb7.then_ hb8⟩
end Go.Proofs.YtkklmflclmgjeaaGreatDoor
