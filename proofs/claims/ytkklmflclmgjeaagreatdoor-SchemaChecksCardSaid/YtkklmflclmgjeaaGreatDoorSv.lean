/-
  SchemaPicks, its walk.
-/
import Derived.Test.YtkklmflclmgjeaaGreatDoorSs
set_option linter.unusedVariables false
set_option linter.unusedSimpArgs false
set_option linter.unusedVariables false
set_option linter.unusedSimpArgs false
namespace Go.Proofs.YtkklmflclmgjeaaGreatDoor
open Go.RowKit Go.Shelf Go.Lib
attribute [local go_sem] Oper.semAt_some

def shortB (l : List Val) : Bool := decide (l.length ≤ 12) && l.all fun x => decide (x.b.size ≤ 300)
set_option maxRecDepth 100000 in
set_option maxHeartbeats 4000000 in
theorem mshort_any (vl : Value) (l : List Val) (w : World) (hl : ValsAt w vl l) (hsz : ∀ x ∈ l, x.b.size ≤ maxLen) : Calls Tryz.prog 15 #[vl, .int .i64 12] w fun e w' => e = .returned (.bool (shortB l)) ∧ w = w' := by
  obtain ⟨bb, hbb⟩ : ∃ b, b = shortB l := ⟨_, rfl⟩
  rw [← hbb]
  have HBB := Lib.hid hbb
  obtain ⟨A, c, rfl, hcl, hm, hr⟩ := hl
  have hlI : (l.length : Int) ≤ 9223372036854775807 := by unfold maxLen at hm; omega
  have HR := Lib.hid hr
  have HSZ := Lib.hid hsz
  clear hr hm hbb hsz
  go_enter Tryz.func15, Tryz.ntmps15
  go_wp2
  go_loopw [5] (fun i wr => ∃ k : Nat, k ≤ l.length ∧ k ≤ 13 ∧ i = .int .i64 k ∧ wr = w ∧ Hid (∀ x ∈ l.take k, x.b.size ≤ 300)) (fun i _ => 13 - (intOf i).toNat)
  case atStart => exact ⟨0, Nat.zero_le _, by omega, rfl, rfl, fun x hx => by simp at hx⟩
  case round =>
    obtain ⟨k, hk, hk21, rfl, hwr, HT⟩ := hrel
    have hwr' := hwr.symm
    clear hwr
    subst hwr'
    by_cases hlt : k < l.length ∧ k ≤ 12
    · obtain ⟨x, hx⟩ : ∃ x, l[k]? = some x := ⟨_, List.getElem?_eq_getElem hlt.1⟩
      have hmem := List.mem_of_getElem? hx
      have hxm := HSZ.out x hmem
      have hxI : (x.b.size : Int) ≤ 9223372036854775807 := by unfold maxLen at hxm; omega
      obtain ⟨g, off, rfl, hi⟩ := HR.out (by omega)
      obtain ⟨c0, c1, c2, c3⟩ := hi k x hx
      have hkI : (k : Int) < l.length := by omega
      have hk20 : (k : Int) ≤ 12 := by omega
      have HTK : Hid (x.b.size ≤ 300 → ∀ y ∈ l.take (k + 1), y.b.size ≤ 300) := fun h y hy => by
        rw [List.take_add_one, hx] at hy
        rcases List.mem_append.1 hy with hy | hy
        · exact HT.out y hy
        · simp at hy; subst hy; exact h
      have HNB : Hid (¬ x.b.size ≤ 300 → bb = false) := fun h => by
        rw [HBB.out]; unfold shortB
        rw [show (l.all fun x => decide (x.b.size ≤ 300)) = false by rw [List.all_eq_false]; exact ⟨x, hmem, by simpa using h⟩]
        simp
      have HLT := Lib.hid hlt
      clear hi hx hmem hxm hlt
      by_cases hz : x.b.size ≤ 300
      · have hzb : decide ((300 : Int) < x.b.size) = false := by simp; omega
        go_wp2
        go_roundw
        case rel => exact ⟨k + 1, by have := HLT.out; omega, by have := HLT.out; omega, by go_num, by first | rfl | trivial, HTK.out hz⟩
        case measure => have := HLT.out; simp [intOf]; omega
      · have hbf := HNB.out hz
        have hz2 : (300 : Int) < x.b.size := by omega
        go_wp2
        go_ret
        exact ⟨by first | rfl | (rw [hbf]; rfl), rfl⟩
    · by_cases hL : l.length ≤ 12
      · obtain rfl : k = l.length := by omega
        have hbt : bb = true := by rw [HBB.out]; unfold shortB; rw [decide_eq_true hL, Bool.true_and, List.all_eq_true]; exact fun x hx => decide_eq_true (HT.out x (by rw [List.take_length]; exact hx))
        have hLI : (l.length : Int) ≤ 12 := by omega
        clear hlt hk hk21 hL
        go_wp2
        go_ret
        exact ⟨by first | rfl | (rw [hbt]; rfl), rfl⟩
      · obtain rfl : k = 13 := by omega
        have hbf : bb = false := by rw [HBB.out]; unfold shortB; rw [decide_eq_false hL]; rfl
        have hLI : (12 : Int) < l.length := by omega
        have hdd : decide ((l.length : Int) ≤ 12) = false := decide_eq_false (by omega)
        clear hlt hk hk21 hL
        go_wp2
        all_goals
          go_ret
          exact ⟨by first | rfl | (rw [hbf]; rfl), rfl⟩
set_option maxRecDepth 100000 in
set_option maxHeartbeats 8000000 in
theorem mPicks_any (vr va : Value) (row : List Val) (at_ : List Int) (w : World) (hg : ErrType w) (hr : ValsAt w vr row) (ha : IntsAt w va at_) (hsz : ∀ x ∈ row, x.b.size ≤ maxLen) :
    Calls Tryz.prog 4 #[vr, va] w fun e w' => e = .returned (.bool true) ∧ Bel w w' := by
  have HSH := Lib.hid (mshort_any vr row w hr hsz)
  have HW := Lib.hid (fun V (hb : Bel w V) => mworks_any V (hg.bel hb))
  have HP := Lib.hid (fun (h : at_.length ≤ 1000) V (hb : Bel w V) => scPick_any vr va row at_ V (hr.bel hb) (ha.bel hb) h)
  have HT := Lib.hid (fun (h : at_.length ≤ 1000) V (hb : Bel w V) => tPick_any vr va row at_ V (hr.bel hb) (ha.bel hb) h)
  obtain ⟨Ar, cr, rfl, -⟩ := hr
  obtain ⟨Aa, ca, rfl, hca, hma, -⟩ := ha
  have haI : (at_.length : Int) ≤ 9223372036854775807 := by
    have : at_.length ≤ ca := by omega
    unfold maxLen at hma; omega
  clear hsz hg
  cases hs : shortB row
  · rw [hs] at HSH
    clear hs
    go_enter Tryz.func4, Tryz.ntmps4
    go_wp2_with (first | (go_at_call 15; refine HSH.out.mono ?_; rintro e w' ⟨rfl, rfl⟩) | (go_at_call 16; refine (HW.out _ (Bel.refl w)).mono ?_; rintro e w9 ⟨rfl, hb9⟩))
    go_ret
    exact ⟨rfl, hb9⟩
  · rw [hs] at HSH
    clear hs
    by_cases hl : at_.length ≤ 12
    · have hlb : decide ((12 : Int) < at_.length) = false := by simp; omega
      have HP2 := Lib.hid (HP.out (by omega))
      have HT2 := Lib.hid (HT.out (by omega))
      generalize pickR row at_ = R at *
      have hrr : (R.2 == R.2) = true := by simp
      go_enter Tryz.func4, Tryz.ntmps4
      go_wp2_with (go_at_call 15; refine HSH.out.mono ?_; rintro e w' ⟨rfl, rfl⟩)
      refine (HP2.out _ (Bel.refl w)).mono ?_
      rintro e w4 ⟨v4, rfl, hv4, hb4⟩
      have HV4 := Lib.hid hv4
      have HB4 := Lib.hid hb4
      clear hv4 hb4 HP HT
      go_wp2_with fail
      refine (HT2.out _ HB4.out).mono ?_
      rintro e w5 ⟨v5, rfl, hv5, hb5⟩
      have HSM := vrSame_any v4 v5 R.1 R.1 w5 (HV4.out.bel hb5) hv5
      rw [decide_eq_true rfl] at HSM
      have HSM2 := Lib.hid HSM
      have HB5 := Lib.hid (HB4.out.then_ hb5)
      clear hv5 hb5 HSM HV4
      go_wp2_with (first | (go_at_call 22; refine HSM2.out.mono ?_; rintro e w6 ⟨rfl, hb6⟩; have hB6 := HB5.out.then_ hb6) | (go_at_call 17; refine (mnum_any _ _).mono ?_; rintro e w' ⟨rfl, rfl⟩) | (go_at_call 16; refine (HW.out _ hB6).mono ?_; rintro e w9 ⟨rfl, hb9⟩))
      go_ret
      exact ⟨rfl, hB6.then_ hb9⟩
    · have hlb : (12 : Int) < at_.length := by omega
      go_enter Tryz.func4, Tryz.ntmps4
      go_wp2_with (first | (go_at_call 15; refine HSH.out.mono ?_; rintro e w' ⟨rfl, rfl⟩) | (go_at_call 16; refine (HW.out _ (Bel.refl w)).mono ?_; rintro e w9 ⟨rfl, hb9⟩))
      go_ret
      exact ⟨rfl, hb9⟩
end Go.Proofs.YtkklmflclmgjeaaGreatDoor
