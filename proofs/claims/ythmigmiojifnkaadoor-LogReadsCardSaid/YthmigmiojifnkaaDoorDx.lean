/-
  What is told where there is no disk.
-/
import Derived.Test.YthmigmiojifnkaaDoorDw
set_option linter.unusedVariables false
set_option linter.unusedSimpArgs false
set_option linter.unusedVariables false
set_option linter.unusedSimpArgs false
namespace Go.Proofs.YthmigmiojifnkaaDoor
open Go.RowKit

/-- No disk: nil, or one without room. -/
def NoDisk (w : World) (p : Option Addr) : Prop := p = none ∨ ∃ bd c0 c2 c3, p = some ⟨bd, 0, none⟩ ∧ w.heap[bd]? = some (.cells #[c0, .int .i64 0, c2, c3] 82 (0, 0))
theorem NoDisk.bel {w w' : World} {p : Option Addr} (h : NoDisk w p) (hb : Bel w w') : NoDisk w' p := by
  rcases h with h | ⟨bd, c0, c2, c3, h1, h2⟩
  · exact .inl h
  · exact .inr ⟨bd, c0, c2, c3, h1, hb.deferred h2⟩
theorem none_no {w : World} {p : Option Addr} (h : NoDisk w p) : Calls Tryd.prog 45 #[.pointer p] w fun e w' => e = .returned (.bool true) ∧ w = w' := by
  rcases h with rfl | ⟨bd, c0, c2, c3, rfl, h2⟩
  · exact none_nil w
  · exact none_zero bd c0 c2 c3 _ w h2
theorem asked_no {w : World} {p : Option Addr} (h : NoDisk w p) (file : Int) : Calls Tryd.prog 57 #[.pointer p, .int .i64 file] w (GivesFault 1 w) := by
  rcases h with rfl | ⟨bd, c0, c2, c3, rfl, h2⟩
  · exact asked_nil file w
  · exact asked_zero file bd c0 c2 c3 _ w h2
theorem read_no {w : World} {p : Option Addr} (h : NoDisk w p) (hg : ErrType w) (file : Int) : Calls Tryd.prog 37 #[.pointer p, .int .i64 file] w (GivesRead none 1 w) := by
  have HA := Lib.hid (asked_no h file)
  have HG := Lib.hid hg
  clear h hg
  go_enter Tryd.func37, Tryd.ntmps37
  go_wp2_with fail
  refine HA.out.mono ?_
  rintro e w1 ⟨q, rfl, hp, hb⟩
  have HP := Lib.hid (dnumber_fault q 1 w1 (HG.out.bel hb) hp)
  have HB := Lib.hid hb
  clear hb hp
  go_wp2_with fail
  refine HP.out.mono ?_
  rintro e w2 ⟨rfl, hb2⟩
  have HB2 := Lib.hid hb2
  clear hb2
  go_wp2
  go_ret2
  exact ⟨rfl, HB.out.then_ HB2.out⟩
theorem append_no {w : World} {p : Option Addr} (h : NoDisk w p) (hg : ErrType w) (file : Int) (v : Value) : Calls Tryd.prog 26 #[.pointer p, .int .i64 file, v] w fun e w' => e = .returned (.int .i64 1) ∧ Bel w w' := by
  have HA := Lib.hid (asked_no h file)
  have HG := Lib.hid hg
  clear h hg
  go_enter Tryd.func26, Tryd.ntmps26
  go_wp2_with fail
  refine HA.out.mono ?_
  rintro e w1 ⟨q, rfl, hp, hb⟩
  have HP := Lib.hid (dnumber_fault q 1 w1 (HG.out.bel hb) hp)
  have HB := Lib.hid hb
  clear hb hp
  go_wp2_with fail
  refine HP.out.mono ?_
  rintro e w2 ⟨rfl, hb2⟩
  have HB2 := Lib.hid hb2
  clear hb2
  go_wp2
  go_ret
  exact ⟨rfl, HB.out.then_ HB2.out⟩
theorem cut_no {w : World} {p : Option Addr} (h : NoDisk w p) (hg : ErrType w) (file many : Int) : Calls Tryd.prog 39 #[.pointer p, .int .i64 file, .int .i64 many] w fun e w' => e = .returned (.int .i64 1) ∧ Bel w w' := by
  have HA := Lib.hid (asked_no h file)
  have HG := Lib.hid hg
  clear h hg
  by_cases hm : many < 0
  · go_enter Tryd.func39, Tryd.ntmps39
    go_wp2_with fail
    refine HA.out.mono ?_
    rintro e w1 ⟨q, rfl, hp, hb⟩
    have HP := Lib.hid (dnumber_fault q 1 w1 (HG.out.bel hb) hp)
    have HI := Lib.hid (is_fault q 1 1 w1 hp)
    have HB := Lib.hid hb
    clear hb hp
    go_wp2_with fail
    refine HI.out.mono ?_
    rintro e w2 ⟨rfl, rfl⟩
    go_wp2_with fail
    refine HP.out.mono ?_
    rintro e w2 ⟨rfl, hb2⟩
    have HB2 := Lib.hid hb2
    clear hb2
    go_wp2
    go_ret
    exact ⟨rfl, HB.out.then_ HB2.out⟩
  · have hm' : decide (many < 0) = false := by simp; omega
    go_enter Tryd.func39, Tryd.ntmps39
    go_wp2_with fail
    refine HA.out.mono ?_
    rintro e w1 ⟨q, rfl, hp, hb⟩
    have HP := Lib.hid (dnumber_fault q 1 w1 (HG.out.bel hb) hp)
    have HB := Lib.hid hb
    clear hb hp
    go_wp2_with fail
    refine HP.out.mono ?_
    rintro e w2 ⟨rfl, hb2⟩
    have HB2 := Lib.hid hb2
    clear hb2
    go_wp2
    go_ret
    exact ⟨rfl, HB.out.then_ HB2.out⟩
theorem sync_no {w : World} {p : Option Addr} (h : NoDisk w p) : Calls Tryd.prog 24 #[.pointer p] w fun e w' => e = .returned (.int .i64 1) ∧ w = w' := by
  have HN := Lib.hid (none_no h)
  clear h
  go_enter Tryd.func24, Tryd.ntmps24
  go_wp2_with (go_at_call 45; refine HN.out.mono ?_; rintro e w' ⟨rfl, rfl⟩)
  go_ret
  exact ⟨rfl, rfl⟩
theorem crash_no {w : World} {p : Option Addr} (h : NoDisk w p) (k t : Int) : Calls Tryd.prog 15 #[.pointer p, .int .i64 k, .int .i64 t] w fun e w' => e = .returned (.int .i64 1) ∧ w = w' := by
  have HN := Lib.hid (none_no h)
  clear h
  go_enter Tryd.func15, Tryd.ntmps15
  go_wp2_with (go_at_call 45; refine HN.out.mono ?_; rintro e w' ⟨rfl, rfl⟩)
  go_ret
  exact ⟨rfl, rfl⟩
theorem loose_no {w : World} {p : Option Addr} (h : NoDisk w p) : Calls Tryd.prog 16 #[.pointer p] w fun e w' => e = .returned (.int .i64 0) ∧ w = w' := by
  have HN := Lib.hid (none_no h)
  clear h
  go_enter Tryd.func16, Tryd.ntmps16
  go_wp2_with (go_at_call 45; refine HN.out.mono ?_; rintro e w' ⟨rfl, rfl⟩)
  go_ret
  exact ⟨rfl, rfl⟩
theorem left_no {w : World} {p : Option Addr} (h : NoDisk w p) : Calls Tryd.prog 32 #[.pointer p] w fun e w' => e = .returned (.int .i64 0) ∧ w = w' := by
  have HN := Lib.hid (none_no h)
  clear h
  go_enter Tryd.func32, Tryd.ntmps32
  go_wp2_with (go_at_call 45; refine HN.out.mono ?_; rintro e w' ⟨rfl, rfl⟩)
  go_ret
  exact ⟨rfl, rfl⟩
theorem copy_no {w : World} {p : Option Addr} (h : NoDisk w p) : Calls Tryd.prog 40 #[.pointer p] w fun e w' => e = .returned (.pointer none) ∧ w = w' := by
  have HN := Lib.hid (none_no h)
  clear h
  go_enter Tryd.func40, Tryd.ntmps40
  go_wp2_with (go_at_call 45; refine HN.out.mono ?_; rintro e w' ⟨rfl, rfl⟩)
  go_ret
  exact ⟨rfl, rfl⟩
theorem same_no {w : World} {p : Option Addr} (h : NoDisk w p) : Calls Tryd.prog 41 #[.pointer p, .pointer none] w fun e w' => e = .returned (.bool true) ∧ w = w' := by
  have HN := Lib.hid (none_no h)
  clear h
  go_enter Tryd.func41, Tryd.ntmps41
  go_wp2_with fail
  refine HN.out.mono ?_
  rintro e w1 ⟨rfl, rfl⟩
  go_wp2_with fail
  refine HN.out.mono ?_
  rintro e w1 ⟨rfl, rfl⟩
  go_wp2_with (go_at_call 45; refine (none_nil _).mono ?_; rintro e w' ⟨rfl, rfl⟩)
  go_ret
  exact ⟨rfl, rfl⟩
theorem same_one {w : World} {p : Option Addr} {bd : Nat} {m : DM} {fp : Nat → Prop} (hd : DiskIs w bd m fp) (hr : m.room ≠ 0) (h : NoDisk w p) : Calls Tryd.prog 41 #[.pointer (some ⟨bd, 0, none⟩), .pointer p] w fun e w' => e = .returned (.bool false) ∧ w = w' := by
  have HN := Lib.hid (none_no h)
  have HD := Lib.hid (none_disk hd hr)
  clear h hd hr
  go_enter Tryd.func41, Tryd.ntmps41
  go_wp2_with fail
  refine HD.out.mono ?_
  rintro e w1 ⟨rfl, rfl⟩
  go_wp2_with fail
  refine HN.out.mono ?_
  rintro e w1 ⟨rfl, rfl⟩
  go_wp2_with fail
  refine HD.out.mono ?_
  rintro e w1 ⟨rfl, rfl⟩
  go_wp2
  go_ret
  exact ⟨rfl, rfl⟩
/-- The files of none: a closure over an empty map. -/
theorem files_no {w : World} {p : Option Addr} (h : NoDisk w p) : Calls Tryd.prog 38 #[.pointer p] w fun e w' => e = .returned (.func (.func 69) #[] #[.pointer (some ⟨w.heap.size + 1, 0, none⟩)]) ∧ (w.alloc (.map #[] 0)).alloc (.cells #[.map (some w.heap.size)] 79) = w' := by
  have hmm := @run_makeMap Tryd.prog
  have HN := Lib.hid (none_no (h.bel (((Bel.refl w).alloc (.map #[] 0)).alloc (.cells #[.map (some w.heap.size)] 79))))
  clear h
  go_enter Tryd.func38, Tryd.ntmps38
  go_wp2_with (go_at_call 45; refine HN.out.mono ?_; rintro e w' ⟨rfl, rfl⟩)
  go_ret
  exact ⟨rfl, rfl⟩
end Go.Proofs.YthmigmiojifnkaaDoor
