/-
  The laws' small functions over a disk: num, read; and the chapter's rows, as a plain reckoning.
-/
import Derived.Test.YtiajggmnfaidjaaGreatDoorDi
import Derived.Laws.BytesArg
set_option linter.unusedVariables false
set_option linter.unusedSimpArgs false
set_option linter.unusedVariables false
set_option linter.unusedSimpArgs false
namespace Go.Proofs.YtiajggmnfaidjaaGreatDoor
open Go.RowKit

def strV (s : List UInt8) : Value := .string ⟨s.toArray⟩
theorem strOf_bytes (s : List UInt8) : strOfNums (s.map fun c => (c.toNat : Int)) = ⟨s.toArray⟩ := by
  unfold strOfNums
  rw [List.map_map]
  have : (s.map ((fun n : Int => UInt8.ofNat n.toNat) ∘ fun c => (c.toNat : Int))) = s := by
    conv => rhs; rw [← List.map_id s]
    apply List.map_congr_left
    intro c _
    simp
  rw [this]
theorem conv_string {w : World} {v : Value} {s : List UInt8} {fp : Nat → Prop} (h : BytesAt w v s fp) : (convert 43 9 v).run Tryz.prog w = .ok (strV s) w := by
  obtain ⟨A, cap, rfl, h2, h3, h4, h5, h6⟩ := h
  cases A with
  | none =>
    have := h4 rfl
    have : s = [] := List.eq_nil_of_length_eq_zero (by omega)
    subst this
    have := run_convert_bytes_nil (P := Tryz.prog) w 43 5 Tryz.underlying43 Tryz.underlying5 0 cap 9 Tryz.underlying9
    exact this
  | some a =>
    obtain ⟨b, off, spot⟩ := a
    have := h5 _ rfl
    simp at this
    subst this
    have := run_convert_bytes_arg (P := Tryz.prog) w 43 5 Tryz.underlying43 Tryz.underlying5 b off s.length cap (s.map fun c => (c.toNat : Int)) (by simp) (fun i hi => by
      obtain ⟨b', off', cs, fz, e, _, hb, hc⟩ := h6 (by omega)
      simp at e
      obtain ⟨rfl, rfl⟩ := e
      have := hc i s[i] (List.getElem?_eq_getElem hi)
      simp [World.cell?, hb, this, bv, List.getD, hi]) 9 Tryz.underlying9
    rw [this, strOf_bytes]
    rfl
def abc : List UInt8 := [97, 98, 99]
def def_ : List UInt8 := [100, 101, 102]
def gh : List UInt8 := [103, 104]
def xyz : List UInt8 := [120, 121, 122]
def wk0 : DM := DM.new 10
def wk1 : DM := (wk0.append 0 abc).1
def wk2 : DM := wk1.sync
def wk3 : DM := (wk2.append 0 def_).1
def wk4 : DM := (wk3.append 1 gh).1
def wk5 : DM := wk4.crash 1 1
def wk6 : DM := (wk5.cut 0 2).1
def wk7 : DM := wk6.crash 0 9
theorem wk_1 : (wk0.append 0 abc).2 = 0 := by decide +kernel
theorem wk_3 : (wk2.append 0 def_).2 = 0 := by decide +kernel
theorem wk_4 : (wk3.append 1 gh).2 = 0 := by decide +kernel
theorem wk_4f : (wk4.append 2 xyz) = (wk4, 190) := by
  have : wk4.room - tot wk4.files < xyz.length := by decide +kernel
  unfold DM.append; rw [if_neg (by decide), if_pos this]
theorem wk_4l : wk4.loose.length = 2 := by decide +kernel
theorem wk_4t : wk4.room - tot wk4.files = 2 := by decide +kernel
theorem wk_5a : wk5.files 0 = [97, 98, 99, 100, 101, 102] := by decide +kernel
theorem wk_5b : wk5.files 1 = [103] := by decide +kernel
theorem wk_6 : (wk5.cut 0 2).2 = 0 := by decide +kernel
theorem wk_7a : wk7.files 0 = [97, 98, 99, 100, 101, 102] := by decide +kernel
theorem wk_7c : (wk7.cut 0 7) = (wk7, 4) := by
  have : ((wk7.files 0).length : Int) < 7 := by decide +kernel
  unfold DM.cut; rw [if_neg (by decide), if_pos (.inr this)]
theorem fit_of {m : DM} (h : (decide (0 < m.room) && decide (m.room ≤ 16777216) && decide (tot m.files ≤ m.room) && decide (m.loose.length ≤ 10)) = true) : Fit m := by
  simp at h
  exact ⟨h.1.1.1, h.1.1.2, h.1.2, by omega⟩
theorem fit0 : Fit wk0 := fit_of (by decide +kernel)
theorem fit1 : Fit wk1 := fit_of (by decide +kernel)
theorem fit2 : Fit wk2 := fit_of (by decide +kernel)
theorem fit3 : Fit wk3 := fit_of (by decide +kernel)
theorem fit4 : Fit wk4 := fit_of (by decide +kernel)
theorem fit5 : Fit wk5 := fit_of (by decide +kernel)
theorem fit6 : Fit wk6 := fit_of (by decide +kernel)
theorem fit7 : Fit wk7 := fit_of (by decide +kernel)
end Go.Proofs.YtiajggmnfaidjaaGreatDoor
