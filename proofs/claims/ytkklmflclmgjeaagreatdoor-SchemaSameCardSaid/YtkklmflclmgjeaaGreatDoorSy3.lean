/-
  Schema: whether lists of lists of numbers are the same.
-/
import Derived.Test.YtkklmflclmgjeaaGreatDoorSy
set_option linter.unusedVariables false
set_option linter.unusedSimpArgs false
set_option linter.unusedVariables false
set_option linter.unusedSimpArgs false
namespace Go.Proofs.YtkklmflclmgjeaaGreatDoor
open Go.RowKit Go.Shelf Go.Lib
attribute [local go_sem] Oper.semAt_some

set_option maxRecDepth 100000 in
set_option maxHeartbeats 4000000 in
theorem slEqualFuncInts_any (va vb : Value) (a b : List (List Int)) (w : World) (ha : ListsAt w va a) (hb : ListsAt w vb b) : Calls Tryz.prog 107 #[va, vb, .func (.func 62) #[] #[]] w fun e w' => e = .returned (.bool (decide (a = b))) ∧ Bel w w' := by
  have eg : ∀ args w, (callFunc 62 args).run Tryz.prog w = .ok (.enter 62 args) w := enters_of Tryz.func62 (by kernel_rfl) rfl
  obtain ⟨R, hR⟩ : ∃ R, R = decide (a = b) := ⟨_, rfl⟩
  rw [← hR]
  have HR := Lib.hid hR
  clear hR
  obtain ⟨Aa, ca, rfl, hca, hma, hra⟩ := ha
  obtain ⟨Ab, cb, rfl, hcb, hmb, hrb⟩ := hb
  have haI : (a.length : Int) ≤ 9223372036854775807 := by unfold maxLen at hma; omega
  have hbI : (b.length : Int) ≤ 9223372036854775807 := by unfold maxLen at hmb; omega
  have HRA := Lib.hid hra
  have HRB := Lib.hid hrb
  clear hra hrb hma hmb hca hcb
  by_cases hab : a.length = b.length
  · have habI : ((a.length : Int) != b.length) = false := by rw [bne_eq_false_iff_eq]; omega
    have HAB := Lib.hid hab
    clear hab
    go_enter Tryz.func107, Tryz.ntmps107
    go_wp2
    go_loopw [17] (fun i wr => ∃ k : Nat, k ≤ a.length ∧ i = .int .i64 k ∧ Hid (Bel w wr) ∧ Hid (a.take k = b.take k)) (fun i _ => a.length - (intOf i).toNat)
    case atStart => exact ⟨0, Nat.zero_le _, rfl, Bel.refl w, by show _ = _; simp⟩
    case round =>
      obtain ⟨k, hk, rfl, HB, HT⟩ := hrel
      by_cases hlt : k < a.length
      · obtain ⟨x, hx⟩ : ∃ x, a[k]? = some x := ⟨_, List.getElem?_eq_getElem hlt⟩
        obtain ⟨y, hy⟩ : ∃ y, b[k]? = some y := ⟨_, List.getElem?_eq_getElem (by have := HAB.out; omega)⟩
        obtain ⟨ba, oa, rfl, hai⟩ := HRA.out (by omega)
        obtain ⟨bb, ob, rfl, hbi⟩ := HRB.out (by have := HAB.out; omega)
        obtain ⟨u, hu0, hu1⟩ := hai k x hx
        obtain ⟨v, hv0, hv1⟩ := hbi k y hy
        have p0 := HB.out.c hu0
        have p1 := HB.out.c hv0
        have hkI : (k : Int) < a.length := by omega
        have hkJ : (k : Int) < b.length := by have := HAB.out; omega
        have HNX : Hid (x = y → a.take (k + 1) = b.take (k + 1)) := fun e => by rw [List.take_add_one, List.take_add_one, hx, hy, HT.out, e]
        have HNO : Hid (¬ x = y → R = false) := fun e => by rw [HR.out]; exact decide_eq_false (fun h => e (by rw [h, hy] at hx; exact (Option.some.inj hx).symm))
        have HEQ := Lib.hid (slEqualInt_any u v x y wr (hu1.bel HB.out) (hv1.bel HB.out))
        have HLT := Lib.hid hlt
        clear hx hy hai hbi hlt hu0 hu1 hv0 hv1
        by_cases hxy : x = y
        · have ht := Lib.hid (HNX.out hxy)
          rw [decide_eq_true hxy] at HEQ
          clear hxy
          go_wp2_with (go_at_fn 62; refine HEQ.out.mono ?_; rintro e w4 ⟨rfl, hb4⟩)
          go_roundw
          case rel => exact ⟨k + 1, HLT.out, by go_num, HB.out.then_ hb4, ht.out⟩
          case measure => have := HLT.out; simp [intOf]; omega
        · have hf := HNO.out hxy
          rw [decide_eq_false hxy] at HEQ
          clear hxy
          go_wp2_with (go_at_fn 62; refine HEQ.out.mono ?_; rintro e w4 ⟨rfl, hb4⟩)
          go_ret
          exact ⟨by first | rfl | (rw [hf]; rfl), HB.out.then_ hb4⟩
      · obtain rfl : k = a.length := by omega
        have ht : R = true := by
          rw [HR.out]
          have := HT.out
          rw [List.take_length, HAB.out, List.take_length] at this
          exact decide_eq_true this
        clear HT hlt hk
        go_wp2
        go_ret
        exact ⟨by first | rfl | (rw [ht]; rfl), HB.out⟩
  · have hf : R = false := by rw [HR.out]; exact decide_eq_false (fun e => hab (by rw [e]))
    have habI : ((a.length : Int) != b.length) = true := by rw [bne_iff_ne]; omega
    go_enter Tryz.func107, Tryz.ntmps107
    go_wp2
    go_ret
    exact ⟨by first | rfl | (rw [hf]; rfl), by (repeat (first | exact Below.refl _ _ | assumption | exact Bel.refl _ | refine Bel.alloc ?_ _ | refine Bel.drew ?_ | refine Bel.drewN ?_ _ | refine Bel.then_ ?_ (by assumption) | refine Bel.setCell ?_ (by first | (simp; done) | (simp; omega)) _))⟩
end Go.Proofs.YtkklmflclmgjeaaGreatDoor
