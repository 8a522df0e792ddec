/-
  Schema: which values fit a column.
-/
import Derived.Test.YtkklmflclmgjeaaGreatDoorSc
import Derived.Test.YtkklmflclmgjeaaGreatDoorSd
set_option linter.unusedVariables false
set_option linter.unusedSimpArgs false
set_option linter.unusedVariables false
set_option linter.unusedSimpArgs false
namespace Go.Proofs.YtkklmflclmgjeaaGreatDoor
open Go.RowKit Go.Shelf Go.Lib
attribute [local go_sem] Oper.semAt_some

/-- The numbers of 64 bits. -/
structure Val.Wf (x : Val) : Prop where
  n0 : -9223372036854775808 ≤ x.n
  n1 : x.n ≤ 9223372036854775807
  u0 : 0 ≤ x.u
  u1 : x.u ≤ 18446744073709551615
def leastI : Int → Int
  | 1 => -128
  | 2 => -32768
  | 4 => -2147483648
  | 8 => -9223372036854775808
  | _ => 0
def mostI : Int → Int
  | 1 => 255
  | 2 => 65535
  | 4 => 4294967295
  | 8 => 18446744073709551615
  | _ => 0
def fitB (t z : Int) (x : Val) : Bool := if t = 1 then decide (leastI z ≤ x.n ∧ x.n ≤ -(leastI z + 1)) else if t = 2 then decide (x.u ≤ mostI z) else if t = 3 then true else decide ((x.b.size : Int) ≤ z)
theorem scka_any (z : Int) (hz : z = 1 ∨ z = 2 ∨ z = 4 ∨ z = 8) (x : Val) (hx : x.Wf) (w : World) : Calls Tryz.prog 143 #[.int .i64 z, x.v] w fun e w' => e = .returned (.bool (fitB 1 z x)) ∧ Bel w w' := by
  obtain ⟨k, n, u, b⟩ := x
  obtain ⟨n0, n1, u0, u1⟩ := hx
  dsimp only at n0 n1 u0 u1
  unfold Val.v
  dsimp only
  rcases hz with rfl | rfl | rfl | rfl
  · go_enter Tryz.func143, Tryz.ntmps143
    go_wp2
    obtain ⟨w1, hw1⟩ : ∃ w1, w1 = w.alloc (.cells #[.int .i64 k, .int .i64 n, .int .u64 u, .string b] 48) := ⟨_, rfl⟩
    rw [← hw1]
    have hb1 : Bel w w1 := by rw [hw1]; exact (Bel.refl w).alloc _
    have hc1 : w1.drew.cell? ⟨w.heap.size, 1, none⟩ = some (.int .i64 n) := by rw [hw1]; go_simp
    clear hw1
    refine wp_region_noPanic ?_
    refine wp_region_held_drew (S := (fun V : World => V.cell? ⟨w.heap.size, 1, none⟩ = some (.int .i64 n))) (by kernel_rfl) ?_ (fun hHr1_0 => ?_)
    · (try dsimp only); exact hc1
    refine wpAnyH_take (i := 0) (oi := _) (v := ?vr1_1_0) rfl (by kernel_rfl) (by kernel_rfl) (by kernel_rfl) ?hqr1_1_0 (Or.inl ⟨by kernel_rfl, ?hyr1_1_0⟩) (by assumption) ?restr1_1_0
    case hqr1_1_0 => exact fun _ _ _ h => h
    case hyr1_1_0 => (intro w hSw; (try dsimp only at hSw); go_simp; try with_reducible rfl)
    try simp only [Act.put, List.getElem_toArray, List.getElem_cons_succ, List.getElem_cons_zero, List.setIfInBounds_toArray, List.set_cons_zero, List.set_cons_succ]
    refine wpAnyH_take (i := 1) (oi := _) (v := ?vr1_1_1) rfl (by kernel_rfl) (by kernel_rfl) (by kernel_rfl) ?hqr1_1_1 (Or.inl ⟨by kernel_rfl, ?hyr1_1_1⟩) (by assumption) ?restr1_1_1
    case hqr1_1_1 => exact fun _ _ _ h => h
    case hyr1_1_1 => (intro w hSw; (try dsimp only at hSw); go_simp; try with_reducible rfl)
    try simp only [Act.put, List.getElem_toArray, List.getElem_cons_succ, List.getElem_cons_zero, List.setIfInBounds_toArray, List.set_cons_zero, List.set_cons_succ]
    refine wpAnyH_take (i := 2) (oi := _) (v := ?vr1_1_2) rfl (by kernel_rfl) (by kernel_rfl) (by kernel_rfl) ?hqr1_1_2 (Or.inl ⟨by kernel_rfl, ?hyr1_1_2⟩) (by assumption) ?restr1_1_2
    case hqr1_1_2 => exact fun _ _ _ h => h
    case hyr1_1_2 => (intro w hSw; (try dsimp only at hSw); go_simp; try with_reducible rfl)
    try simp only [Act.put, List.getElem_toArray, List.getElem_cons_succ, List.getElem_cons_zero, List.setIfInBounds_toArray, List.set_cons_zero, List.set_cons_succ]
    refine wpAnyH_take (i := 3) (oi := _) (v := ?vr1_1_3) rfl (by kernel_rfl) (by kernel_rfl) (by kernel_rfl) ?hqr1_1_3 (Or.inl ⟨by kernel_rfl, ?hyr1_1_3⟩) (by assumption) ?restr1_1_3
    case hqr1_1_3 => exact fun _ _ _ h => h
    case hyr1_1_3 => (intro w hSw; (try dsimp only at hSw); go_simp; try with_reducible rfl)
    try simp only [Act.put, List.getElem_toArray, List.getElem_cons_succ, List.getElem_cons_zero, List.setIfInBounds_toArray, List.set_cons_zero, List.set_cons_succ]
    refine wpAnyH_take (i := 4) (oi := _) (v := ?vr1_1_4) rfl (by kernel_rfl) (by kernel_rfl) (by kernel_rfl) ?hqr1_1_4 (Or.inl ⟨by kernel_rfl, ?hyr1_1_4⟩) (by assumption) ?restr1_1_4
    case hqr1_1_4 => exact fun _ _ _ h => h
    case hyr1_1_4 => (intro w hSw; (try dsimp only at hSw); go_simp; try with_reducible rfl)
    try simp only [Act.put, List.getElem_toArray, List.getElem_cons_succ, List.getElem_cons_zero, List.setIfInBounds_toArray, List.set_cons_zero, List.set_cons_succ]
    refine wpAnyH_take (i := 5) (oi := _) (v := ?vr1_1_5) rfl (by kernel_rfl) (by kernel_rfl) (by kernel_rfl) ?hqr1_1_5 (Or.inl ⟨by kernel_rfl, ?hyr1_1_5⟩) (by assumption) ?restr1_1_5
    case hqr1_1_5 => exact fun _ _ _ h => h
    case hyr1_1_5 => (intro w hSw; (try dsimp only at hSw); go_simp; try with_reducible rfl)
    try simp only [Act.put, List.getElem_toArray, List.getElem_cons_succ, List.getElem_cons_zero, List.setIfInBounds_toArray, List.set_cons_zero, List.set_cons_succ]
    refine wpAnyH_take (i := 6) (oi := _) (v := ?vr1_1_6) rfl (by kernel_rfl) (by kernel_rfl) (by kernel_rfl) ?hqr1_1_6 (Or.inl ⟨by kernel_rfl, ?hyr1_1_6⟩) (by assumption) ?restr1_1_6
    case hqr1_1_6 => exact fun _ _ _ h => h
    case hyr1_1_6 => (intro w hSw; (try dsimp only at hSw); go_simp; try with_reducible rfl)
    try simp only [Act.put, List.getElem_toArray, List.getElem_cons_succ, List.getElem_cons_zero, List.setIfInBounds_toArray, List.set_cons_zero, List.set_cons_succ]
    refine wpAnyH_take (i := 7) (oi := _) (v := ?vr1_1_7) rfl (by kernel_rfl) (by kernel_rfl) (by kernel_rfl) ?hqr1_1_7 (Or.inl ⟨by kernel_rfl, ?hyr1_1_7⟩) (by assumption) ?restr1_1_7
    case hqr1_1_7 => exact fun _ _ _ h => h
    case hyr1_1_7 => (intro w hSw; (try dsimp only at hSw); go_simp; try with_reducible rfl)
    try simp only [Act.put, List.getElem_toArray, List.getElem_cons_succ, List.getElem_cons_zero, List.setIfInBounds_toArray, List.set_cons_zero, List.set_cons_succ]
    refine wpAnyH_take (i := 8) (oi := _) (v := ?vr1_1_8) rfl (by kernel_rfl) (by kernel_rfl) (by kernel_rfl) ?hqr1_1_8 (Or.inl ⟨by kernel_rfl, ?hyr1_1_8⟩) (by assumption) ?restr1_1_8
    case hqr1_1_8 => exact fun _ _ _ h => h
    case hyr1_1_8 => (intro w hSw; (try dsimp only at hSw); go_simp; try with_reducible rfl)
    try simp only [Act.put, List.getElem_toArray, List.getElem_cons_succ, List.getElem_cons_zero, List.setIfInBounds_toArray, List.set_cons_zero, List.set_cons_succ]
    refine wpAnyH_take (i := 9) (oi := _) (v := ?vr1_1_9) rfl (by kernel_rfl) (by kernel_rfl) (by kernel_rfl) ?hqr1_1_9 (Or.inl ⟨by kernel_rfl, ?hyr1_1_9⟩) (by assumption) ?restr1_1_9
    case hqr1_1_9 => exact fun _ _ _ h => h
    case hyr1_1_9 => (intro w hSw; (try dsimp only at hSw); go_simp; try with_reducible rfl)
    try simp only [Act.put, List.getElem_toArray, List.getElem_cons_succ, List.getElem_cons_zero, List.setIfInBounds_toArray, List.set_cons_zero, List.set_cons_succ]
    refine wpAnyH_done (by kernel_rfl) ?_ _
    refine NoPanic.normal ?_
    go_wp2
    go_ret
    refine ⟨?_, hb1.drew⟩
    have hz : (IntKind.i64.wrap (n * 72057594037927936) / 72057594037927936 == n) = decide (-128 ≤ n ∧ n ≤ 127) := by
      rw [Bool.eq_iff_iff, beq_iff_eq, decide_eq_true_iff]
      simp [IntKind.wrap, IntKind.bits, IntKind.signed]
      omega
    exact congrArg (fun x => Ending.returned (Value.bool x)) hz
  · go_enter Tryz.func143, Tryz.ntmps143
    go_wp2
    obtain ⟨w1, hw1⟩ : ∃ w1, w1 = w.alloc (.cells #[.int .i64 k, .int .i64 n, .int .u64 u, .string b] 48) := ⟨_, rfl⟩
    rw [← hw1]
    have hb1 : Bel w w1 := by rw [hw1]; exact (Bel.refl w).alloc _
    have hc1 : w1.drew.cell? ⟨w.heap.size, 1, none⟩ = some (.int .i64 n) := by rw [hw1]; go_simp
    clear hw1
    refine wp_region_noPanic ?_
    refine wp_region_held_drew (S := (fun V : World => V.cell? ⟨w.heap.size, 1, none⟩ = some (.int .i64 n))) (by kernel_rfl) ?_ (fun hHr2_0 => ?_)
    · (try dsimp only); exact hc1
    refine wpAnyH_take (i := 0) (oi := _) (v := ?vr2_1_0) rfl (by kernel_rfl) (by kernel_rfl) (by kernel_rfl) ?hqr2_1_0 (Or.inl ⟨by kernel_rfl, ?hyr2_1_0⟩) (by assumption) ?restr2_1_0
    case hqr2_1_0 => exact fun _ _ _ h => h
    case hyr2_1_0 => (intro w hSw; (try dsimp only at hSw); go_simp; try with_reducible rfl)
    try simp only [Act.put, List.getElem_toArray, List.getElem_cons_succ, List.getElem_cons_zero, List.setIfInBounds_toArray, List.set_cons_zero, List.set_cons_succ]
    refine wpAnyH_take (i := 1) (oi := _) (v := ?vr2_1_1) rfl (by kernel_rfl) (by kernel_rfl) (by kernel_rfl) ?hqr2_1_1 (Or.inl ⟨by kernel_rfl, ?hyr2_1_1⟩) (by assumption) ?restr2_1_1
    case hqr2_1_1 => exact fun _ _ _ h => h
    case hyr2_1_1 => (intro w hSw; (try dsimp only at hSw); go_simp; try with_reducible rfl)
    try simp only [Act.put, List.getElem_toArray, List.getElem_cons_succ, List.getElem_cons_zero, List.setIfInBounds_toArray, List.set_cons_zero, List.set_cons_succ]
    refine wpAnyH_take (i := 2) (oi := _) (v := ?vr2_1_2) rfl (by kernel_rfl) (by kernel_rfl) (by kernel_rfl) ?hqr2_1_2 (Or.inl ⟨by kernel_rfl, ?hyr2_1_2⟩) (by assumption) ?restr2_1_2
    case hqr2_1_2 => exact fun _ _ _ h => h
    case hyr2_1_2 => (intro w hSw; (try dsimp only at hSw); go_simp; try with_reducible rfl)
    try simp only [Act.put, List.getElem_toArray, List.getElem_cons_succ, List.getElem_cons_zero, List.setIfInBounds_toArray, List.set_cons_zero, List.set_cons_succ]
    refine wpAnyH_take (i := 3) (oi := _) (v := ?vr2_1_3) rfl (by kernel_rfl) (by kernel_rfl) (by kernel_rfl) ?hqr2_1_3 (Or.inl ⟨by kernel_rfl, ?hyr2_1_3⟩) (by assumption) ?restr2_1_3
    case hqr2_1_3 => exact fun _ _ _ h => h
    case hyr2_1_3 => (intro w hSw; (try dsimp only at hSw); go_simp; try with_reducible rfl)
    try simp only [Act.put, List.getElem_toArray, List.getElem_cons_succ, List.getElem_cons_zero, List.setIfInBounds_toArray, List.set_cons_zero, List.set_cons_succ]
    refine wpAnyH_take (i := 4) (oi := _) (v := ?vr2_1_4) rfl (by kernel_rfl) (by kernel_rfl) (by kernel_rfl) ?hqr2_1_4 (Or.inl ⟨by kernel_rfl, ?hyr2_1_4⟩) (by assumption) ?restr2_1_4
    case hqr2_1_4 => exact fun _ _ _ h => h
    case hyr2_1_4 => (intro w hSw; (try dsimp only at hSw); go_simp; try with_reducible rfl)
    try simp only [Act.put, List.getElem_toArray, List.getElem_cons_succ, List.getElem_cons_zero, List.setIfInBounds_toArray, List.set_cons_zero, List.set_cons_succ]
    refine wpAnyH_take (i := 5) (oi := _) (v := ?vr2_1_5) rfl (by kernel_rfl) (by kernel_rfl) (by kernel_rfl) ?hqr2_1_5 (Or.inl ⟨by kernel_rfl, ?hyr2_1_5⟩) (by assumption) ?restr2_1_5
    case hqr2_1_5 => exact fun _ _ _ h => h
    case hyr2_1_5 => (intro w hSw; (try dsimp only at hSw); go_simp; try with_reducible rfl)
    try simp only [Act.put, List.getElem_toArray, List.getElem_cons_succ, List.getElem_cons_zero, List.setIfInBounds_toArray, List.set_cons_zero, List.set_cons_succ]
    refine wpAnyH_take (i := 6) (oi := _) (v := ?vr2_1_6) rfl (by kernel_rfl) (by kernel_rfl) (by kernel_rfl) ?hqr2_1_6 (Or.inl ⟨by kernel_rfl, ?hyr2_1_6⟩) (by assumption) ?restr2_1_6
    case hqr2_1_6 => exact fun _ _ _ h => h
    case hyr2_1_6 => (intro w hSw; (try dsimp only at hSw); go_simp; try with_reducible rfl)
    try simp only [Act.put, List.getElem_toArray, List.getElem_cons_succ, List.getElem_cons_zero, List.setIfInBounds_toArray, List.set_cons_zero, List.set_cons_succ]
    refine wpAnyH_take (i := 7) (oi := _) (v := ?vr2_1_7) rfl (by kernel_rfl) (by kernel_rfl) (by kernel_rfl) ?hqr2_1_7 (Or.inl ⟨by kernel_rfl, ?hyr2_1_7⟩) (by assumption) ?restr2_1_7
    case hqr2_1_7 => exact fun _ _ _ h => h
    case hyr2_1_7 => (intro w hSw; (try dsimp only at hSw); go_simp; try with_reducible rfl)
    try simp only [Act.put, List.getElem_toArray, List.getElem_cons_succ, List.getElem_cons_zero, List.setIfInBounds_toArray, List.set_cons_zero, List.set_cons_succ]
    refine wpAnyH_take (i := 8) (oi := _) (v := ?vr2_1_8) rfl (by kernel_rfl) (by kernel_rfl) (by kernel_rfl) ?hqr2_1_8 (Or.inl ⟨by kernel_rfl, ?hyr2_1_8⟩) (by assumption) ?restr2_1_8
    case hqr2_1_8 => exact fun _ _ _ h => h
    case hyr2_1_8 => (intro w hSw; (try dsimp only at hSw); go_simp; try with_reducible rfl)
    try simp only [Act.put, List.getElem_toArray, List.getElem_cons_succ, List.getElem_cons_zero, List.setIfInBounds_toArray, List.set_cons_zero, List.set_cons_succ]
    refine wpAnyH_take (i := 9) (oi := _) (v := ?vr2_1_9) rfl (by kernel_rfl) (by kernel_rfl) (by kernel_rfl) ?hqr2_1_9 (Or.inl ⟨by kernel_rfl, ?hyr2_1_9⟩) (by assumption) ?restr2_1_9
    case hqr2_1_9 => exact fun _ _ _ h => h
    case hyr2_1_9 => (intro w hSw; (try dsimp only at hSw); go_simp; try with_reducible rfl)
    try simp only [Act.put, List.getElem_toArray, List.getElem_cons_succ, List.getElem_cons_zero, List.setIfInBounds_toArray, List.set_cons_zero, List.set_cons_succ]
    refine wpAnyH_done (by kernel_rfl) ?_ _
    refine NoPanic.normal ?_
    go_wp2
    go_ret
    refine ⟨?_, hb1.drew⟩
    have hz : (IntKind.i64.wrap (n * 281474976710656) / 281474976710656 == n) = decide (-32768 ≤ n ∧ n ≤ 32767) := by
      rw [Bool.eq_iff_iff, beq_iff_eq, decide_eq_true_iff]
      simp [IntKind.wrap, IntKind.bits, IntKind.signed]
      omega
    exact congrArg (fun x => Ending.returned (Value.bool x)) hz
  · go_enter Tryz.func143, Tryz.ntmps143
    go_wp2
    obtain ⟨w1, hw1⟩ : ∃ w1, w1 = w.alloc (.cells #[.int .i64 k, .int .i64 n, .int .u64 u, .string b] 48) := ⟨_, rfl⟩
    rw [← hw1]
    have hb1 : Bel w w1 := by rw [hw1]; exact (Bel.refl w).alloc _
    have hc1 : w1.drew.cell? ⟨w.heap.size, 1, none⟩ = some (.int .i64 n) := by rw [hw1]; go_simp
    clear hw1
    refine wp_region_noPanic ?_
    refine wp_region_held_drew (S := (fun V : World => V.cell? ⟨w.heap.size, 1, none⟩ = some (.int .i64 n))) (by kernel_rfl) ?_ (fun hHr3_0 => ?_)
    · (try dsimp only); exact hc1
    refine wpAnyH_take (i := 0) (oi := _) (v := ?vr3_1_0) rfl (by kernel_rfl) (by kernel_rfl) (by kernel_rfl) ?hqr3_1_0 (Or.inl ⟨by kernel_rfl, ?hyr3_1_0⟩) (by assumption) ?restr3_1_0
    case hqr3_1_0 => exact fun _ _ _ h => h
    case hyr3_1_0 => (intro w hSw; (try dsimp only at hSw); go_simp; try with_reducible rfl)
    try simp only [Act.put, List.getElem_toArray, List.getElem_cons_succ, List.getElem_cons_zero, List.setIfInBounds_toArray, List.set_cons_zero, List.set_cons_succ]
    refine wpAnyH_take (i := 1) (oi := _) (v := ?vr3_1_1) rfl (by kernel_rfl) (by kernel_rfl) (by kernel_rfl) ?hqr3_1_1 (Or.inl ⟨by kernel_rfl, ?hyr3_1_1⟩) (by assumption) ?restr3_1_1
    case hqr3_1_1 => exact fun _ _ _ h => h
    case hyr3_1_1 => (intro w hSw; (try dsimp only at hSw); go_simp; try with_reducible rfl)
    try simp only [Act.put, List.getElem_toArray, List.getElem_cons_succ, List.getElem_cons_zero, List.setIfInBounds_toArray, List.set_cons_zero, List.set_cons_succ]
    refine wpAnyH_take (i := 2) (oi := _) (v := ?vr3_1_2) rfl (by kernel_rfl) (by kernel_rfl) (by kernel_rfl) ?hqr3_1_2 (Or.inl ⟨by kernel_rfl, ?hyr3_1_2⟩) (by assumption) ?restr3_1_2
    case hqr3_1_2 => exact fun _ _ _ h => h
    case hyr3_1_2 => (intro w hSw; (try dsimp only at hSw); go_simp; try with_reducible rfl)
    try simp only [Act.put, List.getElem_toArray, List.getElem_cons_succ, List.getElem_cons_zero, List.setIfInBounds_toArray, List.set_cons_zero, List.set_cons_succ]
    refine wpAnyH_take (i := 3) (oi := _) (v := ?vr3_1_3) rfl (by kernel_rfl) (by kernel_rfl) (by kernel_rfl) ?hqr3_1_3 (Or.inl ⟨by kernel_rfl, ?hyr3_1_3⟩) (by assumption) ?restr3_1_3
    case hqr3_1_3 => exact fun _ _ _ h => h
    case hyr3_1_3 => (intro w hSw; (try dsimp only at hSw); go_simp; try with_reducible rfl)
    try simp only [Act.put, List.getElem_toArray, List.getElem_cons_succ, List.getElem_cons_zero, List.setIfInBounds_toArray, List.set_cons_zero, List.set_cons_succ]
    refine wpAnyH_take (i := 4) (oi := _) (v := ?vr3_1_4) rfl (by kernel_rfl) (by kernel_rfl) (by kernel_rfl) ?hqr3_1_4 (Or.inl ⟨by kernel_rfl, ?hyr3_1_4⟩) (by assumption) ?restr3_1_4
    case hqr3_1_4 => exact fun _ _ _ h => h
    case hyr3_1_4 => (intro w hSw; (try dsimp only at hSw); go_simp; try with_reducible rfl)
    try simp only [Act.put, List.getElem_toArray, List.getElem_cons_succ, List.getElem_cons_zero, List.setIfInBounds_toArray, List.set_cons_zero, List.set_cons_succ]
    refine wpAnyH_take (i := 5) (oi := _) (v := ?vr3_1_5) rfl (by kernel_rfl) (by kernel_rfl) (by kernel_rfl) ?hqr3_1_5 (Or.inl ⟨by kernel_rfl, ?hyr3_1_5⟩) (by assumption) ?restr3_1_5
    case hqr3_1_5 => exact fun _ _ _ h => h
    case hyr3_1_5 => (intro w hSw; (try dsimp only at hSw); go_simp; try with_reducible rfl)
    try simp only [Act.put, List.getElem_toArray, List.getElem_cons_succ, List.getElem_cons_zero, List.setIfInBounds_toArray, List.set_cons_zero, List.set_cons_succ]
    refine wpAnyH_take (i := 6) (oi := _) (v := ?vr3_1_6) rfl (by kernel_rfl) (by kernel_rfl) (by kernel_rfl) ?hqr3_1_6 (Or.inl ⟨by kernel_rfl, ?hyr3_1_6⟩) (by assumption) ?restr3_1_6
    case hqr3_1_6 => exact fun _ _ _ h => h
    case hyr3_1_6 => (intro w hSw; (try dsimp only at hSw); go_simp; try with_reducible rfl)
    try simp only [Act.put, List.getElem_toArray, List.getElem_cons_succ, List.getElem_cons_zero, List.setIfInBounds_toArray, List.set_cons_zero, List.set_cons_succ]
    refine wpAnyH_take (i := 7) (oi := _) (v := ?vr3_1_7) rfl (by kernel_rfl) (by kernel_rfl) (by kernel_rfl) ?hqr3_1_7 (Or.inl ⟨by kernel_rfl, ?hyr3_1_7⟩) (by assumption) ?restr3_1_7
    case hqr3_1_7 => exact fun _ _ _ h => h
    case hyr3_1_7 => (intro w hSw; (try dsimp only at hSw); go_simp; try with_reducible rfl)
    try simp only [Act.put, List.getElem_toArray, List.getElem_cons_succ, List.getElem_cons_zero, List.setIfInBounds_toArray, List.set_cons_zero, List.set_cons_succ]
    refine wpAnyH_take (i := 8) (oi := _) (v := ?vr3_1_8) rfl (by kernel_rfl) (by kernel_rfl) (by kernel_rfl) ?hqr3_1_8 (Or.inl ⟨by kernel_rfl, ?hyr3_1_8⟩) (by assumption) ?restr3_1_8
    case hqr3_1_8 => exact fun _ _ _ h => h
    case hyr3_1_8 => (intro w hSw; (try dsimp only at hSw); go_simp; try with_reducible rfl)
    try simp only [Act.put, List.getElem_toArray, List.getElem_cons_succ, List.getElem_cons_zero, List.setIfInBounds_toArray, List.set_cons_zero, List.set_cons_succ]
    refine wpAnyH_take (i := 9) (oi := _) (v := ?vr3_1_9) rfl (by kernel_rfl) (by kernel_rfl) (by kernel_rfl) ?hqr3_1_9 (Or.inl ⟨by kernel_rfl, ?hyr3_1_9⟩) (by assumption) ?restr3_1_9
    case hqr3_1_9 => exact fun _ _ _ h => h
    case hyr3_1_9 => (intro w hSw; (try dsimp only at hSw); go_simp; try with_reducible rfl)
    try simp only [Act.put, List.getElem_toArray, List.getElem_cons_succ, List.getElem_cons_zero, List.setIfInBounds_toArray, List.set_cons_zero, List.set_cons_succ]
    refine wpAnyH_done (by kernel_rfl) ?_ _
    refine NoPanic.normal ?_
    go_wp2
    go_ret
    refine ⟨?_, hb1.drew⟩
    have hz : (IntKind.i64.wrap (n * 4294967296) / 4294967296 == n) = decide (-2147483648 ≤ n ∧ n ≤ 2147483647) := by
      rw [Bool.eq_iff_iff, beq_iff_eq, decide_eq_true_iff]
      simp [IntKind.wrap, IntKind.bits, IntKind.signed]
      omega
    exact congrArg (fun x => Ending.returned (Value.bool x)) hz
  · go_enter Tryz.func143, Tryz.ntmps143
    go_wp2
    obtain ⟨w1, hw1⟩ : ∃ w1, w1 = w.alloc (.cells #[.int .i64 k, .int .i64 n, .int .u64 u, .string b] 48) := ⟨_, rfl⟩
    rw [← hw1]
    have hb1 : Bel w w1 := by rw [hw1]; exact (Bel.refl w).alloc _
    have hc1 : w1.drew.cell? ⟨w.heap.size, 1, none⟩ = some (.int .i64 n) := by rw [hw1]; go_simp
    clear hw1
    refine wp_region_noPanic ?_
    refine wp_region_held_drew (S := (fun V : World => V.cell? ⟨w.heap.size, 1, none⟩ = some (.int .i64 n))) (by kernel_rfl) ?_ (fun hHr4_0 => ?_)
    · (try dsimp only); exact hc1
    refine wpAnyH_take (i := 0) (oi := _) (v := ?vr4_1_0) rfl (by kernel_rfl) (by kernel_rfl) (by kernel_rfl) ?hqr4_1_0 (Or.inl ⟨by kernel_rfl, ?hyr4_1_0⟩) (by assumption) ?restr4_1_0
    case hqr4_1_0 => exact fun _ _ _ h => h
    case hyr4_1_0 => (intro w hSw; (try dsimp only at hSw); go_simp; try with_reducible rfl)
    try simp only [Act.put, List.getElem_toArray, List.getElem_cons_succ, List.getElem_cons_zero, List.setIfInBounds_toArray, List.set_cons_zero, List.set_cons_succ]
    refine wpAnyH_take (i := 1) (oi := _) (v := ?vr4_1_1) rfl (by kernel_rfl) (by kernel_rfl) (by kernel_rfl) ?hqr4_1_1 (Or.inl ⟨by kernel_rfl, ?hyr4_1_1⟩) (by assumption) ?restr4_1_1
    case hqr4_1_1 => exact fun _ _ _ h => h
    case hyr4_1_1 => (intro w hSw; (try dsimp only at hSw); go_simp; try with_reducible rfl)
    try simp only [Act.put, List.getElem_toArray, List.getElem_cons_succ, List.getElem_cons_zero, List.setIfInBounds_toArray, List.set_cons_zero, List.set_cons_succ]
    refine wpAnyH_take (i := 2) (oi := _) (v := ?vr4_1_2) rfl (by kernel_rfl) (by kernel_rfl) (by kernel_rfl) ?hqr4_1_2 (Or.inl ⟨by kernel_rfl, ?hyr4_1_2⟩) (by assumption) ?restr4_1_2
    case hqr4_1_2 => exact fun _ _ _ h => h
    case hyr4_1_2 => (intro w hSw; (try dsimp only at hSw); go_simp; try with_reducible rfl)
    try simp only [Act.put, List.getElem_toArray, List.getElem_cons_succ, List.getElem_cons_zero, List.setIfInBounds_toArray, List.set_cons_zero, List.set_cons_succ]
    refine wpAnyH_take (i := 3) (oi := _) (v := ?vr4_1_3) rfl (by kernel_rfl) (by kernel_rfl) (by kernel_rfl) ?hqr4_1_3 (Or.inl ⟨by kernel_rfl, ?hyr4_1_3⟩) (by assumption) ?restr4_1_3
    case hqr4_1_3 => exact fun _ _ _ h => h
    case hyr4_1_3 => (intro w hSw; (try dsimp only at hSw); go_simp; try with_reducible rfl)
    try simp only [Act.put, List.getElem_toArray, List.getElem_cons_succ, List.getElem_cons_zero, List.setIfInBounds_toArray, List.set_cons_zero, List.set_cons_succ]
    refine wpAnyH_take (i := 4) (oi := _) (v := ?vr4_1_4) rfl (by kernel_rfl) (by kernel_rfl) (by kernel_rfl) ?hqr4_1_4 (Or.inl ⟨by kernel_rfl, ?hyr4_1_4⟩) (by assumption) ?restr4_1_4
    case hqr4_1_4 => exact fun _ _ _ h => h
    case hyr4_1_4 => (intro w hSw; (try dsimp only at hSw); go_simp; try with_reducible rfl)
    try simp only [Act.put, List.getElem_toArray, List.getElem_cons_succ, List.getElem_cons_zero, List.setIfInBounds_toArray, List.set_cons_zero, List.set_cons_succ]
    refine wpAnyH_take (i := 5) (oi := _) (v := ?vr4_1_5) rfl (by kernel_rfl) (by kernel_rfl) (by kernel_rfl) ?hqr4_1_5 (Or.inl ⟨by kernel_rfl, ?hyr4_1_5⟩) (by assumption) ?restr4_1_5
    case hqr4_1_5 => exact fun _ _ _ h => h
    case hyr4_1_5 => (intro w hSw; (try dsimp only at hSw); go_simp; try with_reducible rfl)
    try simp only [Act.put, List.getElem_toArray, List.getElem_cons_succ, List.getElem_cons_zero, List.setIfInBounds_toArray, List.set_cons_zero, List.set_cons_succ]
    refine wpAnyH_take (i := 6) (oi := _) (v := ?vr4_1_6) rfl (by kernel_rfl) (by kernel_rfl) (by kernel_rfl) ?hqr4_1_6 (Or.inl ⟨by kernel_rfl, ?hyr4_1_6⟩) (by assumption) ?restr4_1_6
    case hqr4_1_6 => exact fun _ _ _ h => h
    case hyr4_1_6 => (intro w hSw; (try dsimp only at hSw); go_simp; try with_reducible rfl)
    try simp only [Act.put, List.getElem_toArray, List.getElem_cons_succ, List.getElem_cons_zero, List.setIfInBounds_toArray, List.set_cons_zero, List.set_cons_succ]
    refine wpAnyH_take (i := 7) (oi := _) (v := ?vr4_1_7) rfl (by kernel_rfl) (by kernel_rfl) (by kernel_rfl) ?hqr4_1_7 (Or.inl ⟨by kernel_rfl, ?hyr4_1_7⟩) (by assumption) ?restr4_1_7
    case hqr4_1_7 => exact fun _ _ _ h => h
    case hyr4_1_7 => (intro w hSw; (try dsimp only at hSw); go_simp; try with_reducible rfl)
    try simp only [Act.put, List.getElem_toArray, List.getElem_cons_succ, List.getElem_cons_zero, List.setIfInBounds_toArray, List.set_cons_zero, List.set_cons_succ]
    refine wpAnyH_take (i := 8) (oi := _) (v := ?vr4_1_8) rfl (by kernel_rfl) (by kernel_rfl) (by kernel_rfl) ?hqr4_1_8 (Or.inl ⟨by kernel_rfl, ?hyr4_1_8⟩) (by assumption) ?restr4_1_8
    case hqr4_1_8 => exact fun _ _ _ h => h
    case hyr4_1_8 => (intro w hSw; (try dsimp only at hSw); go_simp; try with_reducible rfl)
    try simp only [Act.put, List.getElem_toArray, List.getElem_cons_succ, List.getElem_cons_zero, List.setIfInBounds_toArray, List.set_cons_zero, List.set_cons_succ]
    refine wpAnyH_take (i := 9) (oi := _) (v := ?vr4_1_9) rfl (by kernel_rfl) (by kernel_rfl) (by kernel_rfl) ?hqr4_1_9 (Or.inl ⟨by kernel_rfl, ?hyr4_1_9⟩) (by assumption) ?restr4_1_9
    case hqr4_1_9 => exact fun _ _ _ h => h
    case hyr4_1_9 => (intro w hSw; (try dsimp only at hSw); go_simp; try with_reducible rfl)
    try simp only [Act.put, List.getElem_toArray, List.getElem_cons_succ, List.getElem_cons_zero, List.setIfInBounds_toArray, List.set_cons_zero, List.set_cons_succ]
    refine wpAnyH_done (by kernel_rfl) ?_ _
    refine NoPanic.normal ?_
    go_wp2
    go_ret
    refine ⟨?_, hb1.drew⟩
    have hz : (IntKind.i64.wrap n == n) = decide (-9223372036854775808 ≤ n ∧ n ≤ 9223372036854775807) := by
      rw [Bool.eq_iff_iff, beq_iff_eq, decide_eq_true_iff]
      simp [IntKind.wrap, IntKind.bits, IntKind.signed]
      omega
    exact congrArg (fun x => Ending.returned (Value.bool x)) hz
theorem sckb_any (z : Int) (hz : z = 1 ∨ z = 2 ∨ z = 4 ∨ z = 8) (x : Val) (hx : x.Wf) (w : World) : Calls Tryz.prog 144 #[.int .i64 z, x.v] w fun e w' => e = .returned (.bool (fitB 2 z x)) ∧ Bel w w' := by
  obtain ⟨k, n, u, b⟩ := x
  obtain ⟨n0, n1, u0, u1⟩ := hx
  dsimp only at n0 n1 u0 u1
  unfold Val.v
  dsimp only
  rcases hz with rfl | rfl | rfl | rfl
  · go_enter Tryz.func144, Tryz.ntmps144
    go_wp2
    obtain ⟨w1, hw1⟩ : ∃ w1, w1 = w.alloc (.cells #[.int .i64 k, .int .i64 n, .int .u64 u, .string b] 48) := ⟨_, rfl⟩
    rw [← hw1]
    have hb1 : Bel w w1 := by rw [hw1]; exact (Bel.refl w).alloc _
    have hc1 : w1.drew.cell? ⟨w.heap.size, 2, none⟩ = some (.int .u64 u) := by rw [hw1]; go_simp
    clear hw1
    refine wp_region_noPanic ?_
    refine wp_region_held_drew (S := (fun V : World => V.cell? ⟨w.heap.size, 2, none⟩ = some (.int .u64 u))) (by kernel_rfl) ?_ (fun hHr5_0 => ?_)
    · (try dsimp only); exact hc1
    refine wpAnyH_take (i := 0) (oi := _) (v := ?vr5_1_0) rfl (by kernel_rfl) (by kernel_rfl) (by kernel_rfl) ?hqr5_1_0 (Or.inl ⟨by kernel_rfl, ?hyr5_1_0⟩) (by assumption) ?restr5_1_0
    case hqr5_1_0 => exact fun _ _ _ h => h
    case hyr5_1_0 => (intro w hSw; (try dsimp only at hSw); go_simp; try with_reducible rfl)
    try simp only [Act.put, List.getElem_toArray, List.getElem_cons_succ, List.getElem_cons_zero, List.setIfInBounds_toArray, List.set_cons_zero, List.set_cons_succ]
    refine wpAnyH_take (i := 1) (oi := _) (v := ?vr5_1_1) rfl (by kernel_rfl) (by kernel_rfl) (by kernel_rfl) ?hqr5_1_1 (Or.inl ⟨by kernel_rfl, ?hyr5_1_1⟩) (by assumption) ?restr5_1_1
    case hqr5_1_1 => exact fun _ _ _ h => h
    case hyr5_1_1 => (intro w hSw; (try dsimp only at hSw); go_simp; try with_reducible rfl)
    try simp only [Act.put, List.getElem_toArray, List.getElem_cons_succ, List.getElem_cons_zero, List.setIfInBounds_toArray, List.set_cons_zero, List.set_cons_succ]
    refine wpAnyH_take (i := 2) (oi := _) (v := ?vr5_1_2) rfl (by kernel_rfl) (by kernel_rfl) (by kernel_rfl) ?hqr5_1_2 (Or.inl ⟨by kernel_rfl, ?hyr5_1_2⟩) (by assumption) ?restr5_1_2
    case hqr5_1_2 => exact fun _ _ _ h => h
    case hyr5_1_2 => (intro w hSw; (try dsimp only at hSw); go_simp; try with_reducible rfl)
    try simp only [Act.put, List.getElem_toArray, List.getElem_cons_succ, List.getElem_cons_zero, List.setIfInBounds_toArray, List.set_cons_zero, List.set_cons_succ]
    refine wpAnyH_take (i := 3) (oi := _) (v := ?vr5_1_3) rfl (by kernel_rfl) (by kernel_rfl) (by kernel_rfl) ?hqr5_1_3 (Or.inl ⟨by kernel_rfl, ?hyr5_1_3⟩) (by assumption) ?restr5_1_3
    case hqr5_1_3 => exact fun _ _ _ h => h
    case hyr5_1_3 => (intro w hSw; (try dsimp only at hSw); go_simp; try with_reducible rfl)
    try simp only [Act.put, List.getElem_toArray, List.getElem_cons_succ, List.getElem_cons_zero, List.setIfInBounds_toArray, List.set_cons_zero, List.set_cons_succ]
    refine wpAnyH_take (i := 4) (oi := _) (v := ?vr5_1_4) rfl (by kernel_rfl) (by kernel_rfl) (by kernel_rfl) ?hqr5_1_4 (Or.inl ⟨by kernel_rfl, ?hyr5_1_4⟩) (by assumption) ?restr5_1_4
    case hqr5_1_4 => exact fun _ _ _ h => h
    case hyr5_1_4 => (intro w hSw; (try dsimp only at hSw); go_simp; try with_reducible rfl)
    try simp only [Act.put, List.getElem_toArray, List.getElem_cons_succ, List.getElem_cons_zero, List.setIfInBounds_toArray, List.set_cons_zero, List.set_cons_succ]
    refine wpAnyH_take (i := 5) (oi := _) (v := ?vr5_1_5) rfl (by kernel_rfl) (by kernel_rfl) (by kernel_rfl) ?hqr5_1_5 (Or.inl ⟨by kernel_rfl, ?hyr5_1_5⟩) (by assumption) ?restr5_1_5
    case hqr5_1_5 => exact fun _ _ _ h => h
    case hyr5_1_5 => (intro w hSw; (try dsimp only at hSw); go_simp; try with_reducible rfl)
    try simp only [Act.put, List.getElem_toArray, List.getElem_cons_succ, List.getElem_cons_zero, List.setIfInBounds_toArray, List.set_cons_zero, List.set_cons_succ]
    refine wpAnyH_take (i := 6) (oi := _) (v := ?vr5_1_6) rfl (by kernel_rfl) (by kernel_rfl) (by kernel_rfl) ?hqr5_1_6 (Or.inl ⟨by kernel_rfl, ?hyr5_1_6⟩) (by assumption) ?restr5_1_6
    case hqr5_1_6 => exact fun _ _ _ h => h
    case hyr5_1_6 => (intro w hSw; (try dsimp only at hSw); go_simp; try with_reducible rfl)
    try simp only [Act.put, List.getElem_toArray, List.getElem_cons_succ, List.getElem_cons_zero, List.setIfInBounds_toArray, List.set_cons_zero, List.set_cons_succ]
    refine wpAnyH_take (i := 7) (oi := _) (v := ?vr5_1_7) rfl (by kernel_rfl) (by kernel_rfl) (by kernel_rfl) ?hqr5_1_7 (Or.inl ⟨by kernel_rfl, ?hyr5_1_7⟩) (by assumption) ?restr5_1_7
    case hqr5_1_7 => exact fun _ _ _ h => h
    case hyr5_1_7 => (intro w hSw; (try dsimp only at hSw); go_simp; try with_reducible rfl)
    try simp only [Act.put, List.getElem_toArray, List.getElem_cons_succ, List.getElem_cons_zero, List.setIfInBounds_toArray, List.set_cons_zero, List.set_cons_succ]
    refine wpAnyH_take (i := 8) (oi := _) (v := ?vr5_1_8) rfl (by kernel_rfl) (by kernel_rfl) (by kernel_rfl) ?hqr5_1_8 (Or.inl ⟨by kernel_rfl, ?hyr5_1_8⟩) (by assumption) ?restr5_1_8
    case hqr5_1_8 => exact fun _ _ _ h => h
    case hyr5_1_8 => (intro w hSw; (try dsimp only at hSw); go_simp; try with_reducible rfl)
    try simp only [Act.put, List.getElem_toArray, List.getElem_cons_succ, List.getElem_cons_zero, List.setIfInBounds_toArray, List.set_cons_zero, List.set_cons_succ]
    refine wpAnyH_take (i := 9) (oi := _) (v := ?vr5_1_9) rfl (by kernel_rfl) (by kernel_rfl) (by kernel_rfl) ?hqr5_1_9 (Or.inl ⟨by kernel_rfl, ?hyr5_1_9⟩) (by assumption) ?restr5_1_9
    case hqr5_1_9 => exact fun _ _ _ h => h
    case hyr5_1_9 => (intro w hSw; (try dsimp only at hSw); go_simp; try with_reducible rfl)
    try simp only [Act.put, List.getElem_toArray, List.getElem_cons_succ, List.getElem_cons_zero, List.setIfInBounds_toArray, List.set_cons_zero, List.set_cons_succ]
    refine wpAnyH_done (by kernel_rfl) ?_ _
    refine NoPanic.normal ?_
    go_wp2
    go_ret
    refine ⟨?_, hb1.drew⟩
    have hz : (IntKind.u64.wrap (u * 72057594037927936) / 72057594037927936 == u) = decide (u ≤ 255) := by
      rw [Bool.eq_iff_iff, beq_iff_eq, decide_eq_true_iff]
      simp [IntKind.wrap, IntKind.bits, IntKind.signed]
      omega
    exact congrArg (fun x => Ending.returned (Value.bool x)) hz
  · go_enter Tryz.func144, Tryz.ntmps144
    go_wp2
    obtain ⟨w1, hw1⟩ : ∃ w1, w1 = w.alloc (.cells #[.int .i64 k, .int .i64 n, .int .u64 u, .string b] 48) := ⟨_, rfl⟩
    rw [← hw1]
    have hb1 : Bel w w1 := by rw [hw1]; exact (Bel.refl w).alloc _
    have hc1 : w1.drew.cell? ⟨w.heap.size, 2, none⟩ = some (.int .u64 u) := by rw [hw1]; go_simp
    clear hw1
    refine wp_region_noPanic ?_
    refine wp_region_held_drew (S := (fun V : World => V.cell? ⟨w.heap.size, 2, none⟩ = some (.int .u64 u))) (by kernel_rfl) ?_ (fun hHr6_0 => ?_)
    · (try dsimp only); exact hc1
    refine wpAnyH_take (i := 0) (oi := _) (v := ?vr6_1_0) rfl (by kernel_rfl) (by kernel_rfl) (by kernel_rfl) ?hqr6_1_0 (Or.inl ⟨by kernel_rfl, ?hyr6_1_0⟩) (by assumption) ?restr6_1_0
    case hqr6_1_0 => exact fun _ _ _ h => h
    case hyr6_1_0 => (intro w hSw; (try dsimp only at hSw); go_simp; try with_reducible rfl)
    try simp only [Act.put, List.getElem_toArray, List.getElem_cons_succ, List.getElem_cons_zero, List.setIfInBounds_toArray, List.set_cons_zero, List.set_cons_succ]
    refine wpAnyH_take (i := 1) (oi := _) (v := ?vr6_1_1) rfl (by kernel_rfl) (by kernel_rfl) (by kernel_rfl) ?hqr6_1_1 (Or.inl ⟨by kernel_rfl, ?hyr6_1_1⟩) (by assumption) ?restr6_1_1
    case hqr6_1_1 => exact fun _ _ _ h => h
    case hyr6_1_1 => (intro w hSw; (try dsimp only at hSw); go_simp; try with_reducible rfl)
    try simp only [Act.put, List.getElem_toArray, List.getElem_cons_succ, List.getElem_cons_zero, List.setIfInBounds_toArray, List.set_cons_zero, List.set_cons_succ]
    refine wpAnyH_take (i := 2) (oi := _) (v := ?vr6_1_2) rfl (by kernel_rfl) (by kernel_rfl) (by kernel_rfl) ?hqr6_1_2 (Or.inl ⟨by kernel_rfl, ?hyr6_1_2⟩) (by assumption) ?restr6_1_2
    case hqr6_1_2 => exact fun _ _ _ h => h
    case hyr6_1_2 => (intro w hSw; (try dsimp only at hSw); go_simp; try with_reducible rfl)
    try simp only [Act.put, List.getElem_toArray, List.getElem_cons_succ, List.getElem_cons_zero, List.setIfInBounds_toArray, List.set_cons_zero, List.set_cons_succ]
    refine wpAnyH_take (i := 3) (oi := _) (v := ?vr6_1_3) rfl (by kernel_rfl) (by kernel_rfl) (by kernel_rfl) ?hqr6_1_3 (Or.inl ⟨by kernel_rfl, ?hyr6_1_3⟩) (by assumption) ?restr6_1_3
    case hqr6_1_3 => exact fun _ _ _ h => h
    case hyr6_1_3 => (intro w hSw; (try dsimp only at hSw); go_simp; try with_reducible rfl)
    try simp only [Act.put, List.getElem_toArray, List.getElem_cons_succ, List.getElem_cons_zero, List.setIfInBounds_toArray, List.set_cons_zero, List.set_cons_succ]
    refine wpAnyH_take (i := 4) (oi := _) (v := ?vr6_1_4) rfl (by kernel_rfl) (by kernel_rfl) (by kernel_rfl) ?hqr6_1_4 (Or.inl ⟨by kernel_rfl, ?hyr6_1_4⟩) (by assumption) ?restr6_1_4
    case hqr6_1_4 => exact fun _ _ _ h => h
    case hyr6_1_4 => (intro w hSw; (try dsimp only at hSw); go_simp; try with_reducible rfl)
    try simp only [Act.put, List.getElem_toArray, List.getElem_cons_succ, List.getElem_cons_zero, List.setIfInBounds_toArray, List.set_cons_zero, List.set_cons_succ]
    refine wpAnyH_take (i := 5) (oi := _) (v := ?vr6_1_5) rfl (by kernel_rfl) (by kernel_rfl) (by kernel_rfl) ?hqr6_1_5 (Or.inl ⟨by kernel_rfl, ?hyr6_1_5⟩) (by assumption) ?restr6_1_5
    case hqr6_1_5 => exact fun _ _ _ h => h
    case hyr6_1_5 => (intro w hSw; (try dsimp only at hSw); go_simp; try with_reducible rfl)
    try simp only [Act.put, List.getElem_toArray, List.getElem_cons_succ, List.getElem_cons_zero, List.setIfInBounds_toArray, List.set_cons_zero, List.set_cons_succ]
    refine wpAnyH_take (i := 6) (oi := _) (v := ?vr6_1_6) rfl (by kernel_rfl) (by kernel_rfl) (by kernel_rfl) ?hqr6_1_6 (Or.inl ⟨by kernel_rfl, ?hyr6_1_6⟩) (by assumption) ?restr6_1_6
    case hqr6_1_6 => exact fun _ _ _ h => h
    case hyr6_1_6 => (intro w hSw; (try dsimp only at hSw); go_simp; try with_reducible rfl)
    try simp only [Act.put, List.getElem_toArray, List.getElem_cons_succ, List.getElem_cons_zero, List.setIfInBounds_toArray, List.set_cons_zero, List.set_cons_succ]
    refine wpAnyH_take (i := 7) (oi := _) (v := ?vr6_1_7) rfl (by kernel_rfl) (by kernel_rfl) (by kernel_rfl) ?hqr6_1_7 (Or.inl ⟨by kernel_rfl, ?hyr6_1_7⟩) (by assumption) ?restr6_1_7
    case hqr6_1_7 => exact fun _ _ _ h => h
    case hyr6_1_7 => (intro w hSw; (try dsimp only at hSw); go_simp; try with_reducible rfl)
    try simp only [Act.put, List.getElem_toArray, List.getElem_cons_succ, List.getElem_cons_zero, List.setIfInBounds_toArray, List.set_cons_zero, List.set_cons_succ]
    refine wpAnyH_take (i := 8) (oi := _) (v := ?vr6_1_8) rfl (by kernel_rfl) (by kernel_rfl) (by kernel_rfl) ?hqr6_1_8 (Or.inl ⟨by kernel_rfl, ?hyr6_1_8⟩) (by assumption) ?restr6_1_8
    case hqr6_1_8 => exact fun _ _ _ h => h
    case hyr6_1_8 => (intro w hSw; (try dsimp only at hSw); go_simp; try with_reducible rfl)
    try simp only [Act.put, List.getElem_toArray, List.getElem_cons_succ, List.getElem_cons_zero, List.setIfInBounds_toArray, List.set_cons_zero, List.set_cons_succ]
    refine wpAnyH_take (i := 9) (oi := _) (v := ?vr6_1_9) rfl (by kernel_rfl) (by kernel_rfl) (by kernel_rfl) ?hqr6_1_9 (Or.inl ⟨by kernel_rfl, ?hyr6_1_9⟩) (by assumption) ?restr6_1_9
    case hqr6_1_9 => exact fun _ _ _ h => h
    case hyr6_1_9 => (intro w hSw; (try dsimp only at hSw); go_simp; try with_reducible rfl)
    try simp only [Act.put, List.getElem_toArray, List.getElem_cons_succ, List.getElem_cons_zero, List.setIfInBounds_toArray, List.set_cons_zero, List.set_cons_succ]
    refine wpAnyH_done (by kernel_rfl) ?_ _
    refine NoPanic.normal ?_
    go_wp2
    go_ret
    refine ⟨?_, hb1.drew⟩
    have hz : (IntKind.u64.wrap (u * 281474976710656) / 281474976710656 == u) = decide (u ≤ 65535) := by
      rw [Bool.eq_iff_iff, beq_iff_eq, decide_eq_true_iff]
      simp [IntKind.wrap, IntKind.bits, IntKind.signed]
      omega
    exact congrArg (fun x => Ending.returned (Value.bool x)) hz
  · go_enter Tryz.func144, Tryz.ntmps144
    go_wp2
    obtain ⟨w1, hw1⟩ : ∃ w1, w1 = w.alloc (.cells #[.int .i64 k, .int .i64 n, .int .u64 u, .string b] 48) := ⟨_, rfl⟩
    rw [← hw1]
    have hb1 : Bel w w1 := by rw [hw1]; exact (Bel.refl w).alloc _
    have hc1 : w1.drew.cell? ⟨w.heap.size, 2, none⟩ = some (.int .u64 u) := by rw [hw1]; go_simp
    clear hw1
    refine wp_region_noPanic ?_
    refine wp_region_held_drew (S := (fun V : World => V.cell? ⟨w.heap.size, 2, none⟩ = some (.int .u64 u))) (by kernel_rfl) ?_ (fun hHr7_0 => ?_)
    · (try dsimp only); exact hc1
    refine wpAnyH_take (i := 0) (oi := _) (v := ?vr7_1_0) rfl (by kernel_rfl) (by kernel_rfl) (by kernel_rfl) ?hqr7_1_0 (Or.inl ⟨by kernel_rfl, ?hyr7_1_0⟩) (by assumption) ?restr7_1_0
    case hqr7_1_0 => exact fun _ _ _ h => h
    case hyr7_1_0 => (intro w hSw; (try dsimp only at hSw); go_simp; try with_reducible rfl)
    try simp only [Act.put, List.getElem_toArray, List.getElem_cons_succ, List.getElem_cons_zero, List.setIfInBounds_toArray, List.set_cons_zero, List.set_cons_succ]
    refine wpAnyH_take (i := 1) (oi := _) (v := ?vr7_1_1) rfl (by kernel_rfl) (by kernel_rfl) (by kernel_rfl) ?hqr7_1_1 (Or.inl ⟨by kernel_rfl, ?hyr7_1_1⟩) (by assumption) ?restr7_1_1
    case hqr7_1_1 => exact fun _ _ _ h => h
    case hyr7_1_1 => (intro w hSw; (try dsimp only at hSw); go_simp; try with_reducible rfl)
    try simp only [Act.put, List.getElem_toArray, List.getElem_cons_succ, List.getElem_cons_zero, List.setIfInBounds_toArray, List.set_cons_zero, List.set_cons_succ]
    refine wpAnyH_take (i := 2) (oi := _) (v := ?vr7_1_2) rfl (by kernel_rfl) (by kernel_rfl) (by kernel_rfl) ?hqr7_1_2 (Or.inl ⟨by kernel_rfl, ?hyr7_1_2⟩) (by assumption) ?restr7_1_2
    case hqr7_1_2 => exact fun _ _ _ h => h
    case hyr7_1_2 => (intro w hSw; (try dsimp only at hSw); go_simp; try with_reducible rfl)
    try simp only [Act.put, List.getElem_toArray, List.getElem_cons_succ, List.getElem_cons_zero, List.setIfInBounds_toArray, List.set_cons_zero, List.set_cons_succ]
    refine wpAnyH_take (i := 3) (oi := _) (v := ?vr7_1_3) rfl (by kernel_rfl) (by kernel_rfl) (by kernel_rfl) ?hqr7_1_3 (Or.inl ⟨by kernel_rfl, ?hyr7_1_3⟩) (by assumption) ?restr7_1_3
    case hqr7_1_3 => exact fun _ _ _ h => h
    case hyr7_1_3 => (intro w hSw; (try dsimp only at hSw); go_simp; try with_reducible rfl)
    try simp only [Act.put, List.getElem_toArray, List.getElem_cons_succ, List.getElem_cons_zero, List.setIfInBounds_toArray, List.set_cons_zero, List.set_cons_succ]
    refine wpAnyH_take (i := 4) (oi := _) (v := ?vr7_1_4) rfl (by kernel_rfl) (by kernel_rfl) (by kernel_rfl) ?hqr7_1_4 (Or.inl ⟨by kernel_rfl, ?hyr7_1_4⟩) (by assumption) ?restr7_1_4
    case hqr7_1_4 => exact fun _ _ _ h => h
    case hyr7_1_4 => (intro w hSw; (try dsimp only at hSw); go_simp; try with_reducible rfl)
    try simp only [Act.put, List.getElem_toArray, List.getElem_cons_succ, List.getElem_cons_zero, List.setIfInBounds_toArray, List.set_cons_zero, List.set_cons_succ]
    refine wpAnyH_take (i := 5) (oi := _) (v := ?vr7_1_5) rfl (by kernel_rfl) (by kernel_rfl) (by kernel_rfl) ?hqr7_1_5 (Or.inl ⟨by kernel_rfl, ?hyr7_1_5⟩) (by assumption) ?restr7_1_5
    case hqr7_1_5 => exact fun _ _ _ h => h
    case hyr7_1_5 => (intro w hSw; (try dsimp only at hSw); go_simp; try with_reducible rfl)
    try simp only [Act.put, List.getElem_toArray, List.getElem_cons_succ, List.getElem_cons_zero, List.setIfInBounds_toArray, List.set_cons_zero, List.set_cons_succ]
    refine wpAnyH_take (i := 6) (oi := _) (v := ?vr7_1_6) rfl (by kernel_rfl) (by kernel_rfl) (by kernel_rfl) ?hqr7_1_6 (Or.inl ⟨by kernel_rfl, ?hyr7_1_6⟩) (by assumption) ?restr7_1_6
    case hqr7_1_6 => exact fun _ _ _ h => h
    case hyr7_1_6 => (intro w hSw; (try dsimp only at hSw); go_simp; try with_reducible rfl)
    try simp only [Act.put, List.getElem_toArray, List.getElem_cons_succ, List.getElem_cons_zero, List.setIfInBounds_toArray, List.set_cons_zero, List.set_cons_succ]
    refine wpAnyH_take (i := 7) (oi := _) (v := ?vr7_1_7) rfl (by kernel_rfl) (by kernel_rfl) (by kernel_rfl) ?hqr7_1_7 (Or.inl ⟨by kernel_rfl, ?hyr7_1_7⟩) (by assumption) ?restr7_1_7
    case hqr7_1_7 => exact fun _ _ _ h => h
    case hyr7_1_7 => (intro w hSw; (try dsimp only at hSw); go_simp; try with_reducible rfl)
    try simp only [Act.put, List.getElem_toArray, List.getElem_cons_succ, List.getElem_cons_zero, List.setIfInBounds_toArray, List.set_cons_zero, List.set_cons_succ]
    refine wpAnyH_take (i := 8) (oi := _) (v := ?vr7_1_8) rfl (by kernel_rfl) (by kernel_rfl) (by kernel_rfl) ?hqr7_1_8 (Or.inl ⟨by kernel_rfl, ?hyr7_1_8⟩) (by assumption) ?restr7_1_8
    case hqr7_1_8 => exact fun _ _ _ h => h
    case hyr7_1_8 => (intro w hSw; (try dsimp only at hSw); go_simp; try with_reducible rfl)
    try simp only [Act.put, List.getElem_toArray, List.getElem_cons_succ, List.getElem_cons_zero, List.setIfInBounds_toArray, List.set_cons_zero, List.set_cons_succ]
    refine wpAnyH_take (i := 9) (oi := _) (v := ?vr7_1_9) rfl (by kernel_rfl) (by kernel_rfl) (by kernel_rfl) ?hqr7_1_9 (Or.inl ⟨by kernel_rfl, ?hyr7_1_9⟩) (by assumption) ?restr7_1_9
    case hqr7_1_9 => exact fun _ _ _ h => h
    case hyr7_1_9 => (intro w hSw; (try dsimp only at hSw); go_simp; try with_reducible rfl)
    try simp only [Act.put, List.getElem_toArray, List.getElem_cons_succ, List.getElem_cons_zero, List.setIfInBounds_toArray, List.set_cons_zero, List.set_cons_succ]
    refine wpAnyH_done (by kernel_rfl) ?_ _
    refine NoPanic.normal ?_
    go_wp2
    go_ret
    refine ⟨?_, hb1.drew⟩
    have hz : (IntKind.u64.wrap (u * 4294967296) / 4294967296 == u) = decide (u ≤ 4294967295) := by
      rw [Bool.eq_iff_iff, beq_iff_eq, decide_eq_true_iff]
      simp [IntKind.wrap, IntKind.bits, IntKind.signed]
      omega
    exact congrArg (fun x => Ending.returned (Value.bool x)) hz
  · go_enter Tryz.func144, Tryz.ntmps144
    go_wp2
    obtain ⟨w1, hw1⟩ : ∃ w1, w1 = w.alloc (.cells #[.int .i64 k, .int .i64 n, .int .u64 u, .string b] 48) := ⟨_, rfl⟩
    rw [← hw1]
    have hb1 : Bel w w1 := by rw [hw1]; exact (Bel.refl w).alloc _
    have hc1 : w1.drew.cell? ⟨w.heap.size, 2, none⟩ = some (.int .u64 u) := by rw [hw1]; go_simp
    clear hw1
    refine wp_region_noPanic ?_
    refine wp_region_held_drew (S := (fun V : World => V.cell? ⟨w.heap.size, 2, none⟩ = some (.int .u64 u))) (by kernel_rfl) ?_ (fun hHr8_0 => ?_)
    · (try dsimp only); exact hc1
    refine wpAnyH_take (i := 0) (oi := _) (v := ?vr8_1_0) rfl (by kernel_rfl) (by kernel_rfl) (by kernel_rfl) ?hqr8_1_0 (Or.inl ⟨by kernel_rfl, ?hyr8_1_0⟩) (by assumption) ?restr8_1_0
    case hqr8_1_0 => exact fun _ _ _ h => h
    case hyr8_1_0 => (intro w hSw; (try dsimp only at hSw); go_simp; try with_reducible rfl)
    try simp only [Act.put, List.getElem_toArray, List.getElem_cons_succ, List.getElem_cons_zero, List.setIfInBounds_toArray, List.set_cons_zero, List.set_cons_succ]
    refine wpAnyH_take (i := 1) (oi := _) (v := ?vr8_1_1) rfl (by kernel_rfl) (by kernel_rfl) (by kernel_rfl) ?hqr8_1_1 (Or.inl ⟨by kernel_rfl, ?hyr8_1_1⟩) (by assumption) ?restr8_1_1
    case hqr8_1_1 => exact fun _ _ _ h => h
    case hyr8_1_1 => (intro w hSw; (try dsimp only at hSw); go_simp; try with_reducible rfl)
    try simp only [Act.put, List.getElem_toArray, List.getElem_cons_succ, List.getElem_cons_zero, List.setIfInBounds_toArray, List.set_cons_zero, List.set_cons_succ]
    refine wpAnyH_take (i := 2) (oi := _) (v := ?vr8_1_2) rfl (by kernel_rfl) (by kernel_rfl) (by kernel_rfl) ?hqr8_1_2 (Or.inl ⟨by kernel_rfl, ?hyr8_1_2⟩) (by assumption) ?restr8_1_2
    case hqr8_1_2 => exact fun _ _ _ h => h
    case hyr8_1_2 => (intro w hSw; (try dsimp only at hSw); go_simp; try with_reducible rfl)
    try simp only [Act.put, List.getElem_toArray, List.getElem_cons_succ, List.getElem_cons_zero, List.setIfInBounds_toArray, List.set_cons_zero, List.set_cons_succ]
    refine wpAnyH_take (i := 3) (oi := _) (v := ?vr8_1_3) rfl (by kernel_rfl) (by kernel_rfl) (by kernel_rfl) ?hqr8_1_3 (Or.inl ⟨by kernel_rfl, ?hyr8_1_3⟩) (by assumption) ?restr8_1_3
    case hqr8_1_3 => exact fun _ _ _ h => h
    case hyr8_1_3 => (intro w hSw; (try dsimp only at hSw); go_simp; try with_reducible rfl)
    try simp only [Act.put, List.getElem_toArray, List.getElem_cons_succ, List.getElem_cons_zero, List.setIfInBounds_toArray, List.set_cons_zero, List.set_cons_succ]
    refine wpAnyH_take (i := 4) (oi := _) (v := ?vr8_1_4) rfl (by kernel_rfl) (by kernel_rfl) (by kernel_rfl) ?hqr8_1_4 (Or.inl ⟨by kernel_rfl, ?hyr8_1_4⟩) (by assumption) ?restr8_1_4
    case hqr8_1_4 => exact fun _ _ _ h => h
    case hyr8_1_4 => (intro w hSw; (try dsimp only at hSw); go_simp; try with_reducible rfl)
    try simp only [Act.put, List.getElem_toArray, List.getElem_cons_succ, List.getElem_cons_zero, List.setIfInBounds_toArray, List.set_cons_zero, List.set_cons_succ]
    refine wpAnyH_take (i := 5) (oi := _) (v := ?vr8_1_5) rfl (by kernel_rfl) (by kernel_rfl) (by kernel_rfl) ?hqr8_1_5 (Or.inl ⟨by kernel_rfl, ?hyr8_1_5⟩) (by assumption) ?restr8_1_5
    case hqr8_1_5 => exact fun _ _ _ h => h
    case hyr8_1_5 => (intro w hSw; (try dsimp only at hSw); go_simp; try with_reducible rfl)
    try simp only [Act.put, List.getElem_toArray, List.getElem_cons_succ, List.getElem_cons_zero, List.setIfInBounds_toArray, List.set_cons_zero, List.set_cons_succ]
    refine wpAnyH_take (i := 6) (oi := _) (v := ?vr8_1_6) rfl (by kernel_rfl) (by kernel_rfl) (by kernel_rfl) ?hqr8_1_6 (Or.inl ⟨by kernel_rfl, ?hyr8_1_6⟩) (by assumption) ?restr8_1_6
    case hqr8_1_6 => exact fun _ _ _ h => h
    case hyr8_1_6 => (intro w hSw; (try dsimp only at hSw); go_simp; try with_reducible rfl)
    try simp only [Act.put, List.getElem_toArray, List.getElem_cons_succ, List.getElem_cons_zero, List.setIfInBounds_toArray, List.set_cons_zero, List.set_cons_succ]
    refine wpAnyH_take (i := 7) (oi := _) (v := ?vr8_1_7) rfl (by kernel_rfl) (by kernel_rfl) (by kernel_rfl) ?hqr8_1_7 (Or.inl ⟨by kernel_rfl, ?hyr8_1_7⟩) (by assumption) ?restr8_1_7
    case hqr8_1_7 => exact fun _ _ _ h => h
    case hyr8_1_7 => (intro w hSw; (try dsimp only at hSw); go_simp; try with_reducible rfl)
    try simp only [Act.put, List.getElem_toArray, List.getElem_cons_succ, List.getElem_cons_zero, List.setIfInBounds_toArray, List.set_cons_zero, List.set_cons_succ]
    refine wpAnyH_take (i := 8) (oi := _) (v := ?vr8_1_8) rfl (by kernel_rfl) (by kernel_rfl) (by kernel_rfl) ?hqr8_1_8 (Or.inl ⟨by kernel_rfl, ?hyr8_1_8⟩) (by assumption) ?restr8_1_8
    case hqr8_1_8 => exact fun _ _ _ h => h
    case hyr8_1_8 => (intro w hSw; (try dsimp only at hSw); go_simp; try with_reducible rfl)
    try simp only [Act.put, List.getElem_toArray, List.getElem_cons_succ, List.getElem_cons_zero, List.setIfInBounds_toArray, List.set_cons_zero, List.set_cons_succ]
    refine wpAnyH_take (i := 9) (oi := _) (v := ?vr8_1_9) rfl (by kernel_rfl) (by kernel_rfl) (by kernel_rfl) ?hqr8_1_9 (Or.inl ⟨by kernel_rfl, ?hyr8_1_9⟩) (by assumption) ?restr8_1_9
    case hqr8_1_9 => exact fun _ _ _ h => h
    case hyr8_1_9 => (intro w hSw; (try dsimp only at hSw); go_simp; try with_reducible rfl)
    try simp only [Act.put, List.getElem_toArray, List.getElem_cons_succ, List.getElem_cons_zero, List.setIfInBounds_toArray, List.set_cons_zero, List.set_cons_succ]
    refine wpAnyH_done (by kernel_rfl) ?_ _
    refine NoPanic.normal ?_
    go_wp2
    go_ret
    refine ⟨?_, hb1.drew⟩
    have hz : (IntKind.u64.wrap u == u) = decide (u ≤ 18446744073709551615) := by
      rw [Bool.eq_iff_iff, beq_iff_eq, decide_eq_true_iff]
      simp [IntKind.wrap, IntKind.bits, IntKind.signed]
      omega
    exact congrArg (fun x => Ending.returned (Value.bool x)) hz
theorem sckd_any (z : Int) (x : Val) (w : World) : Calls Tryz.prog 146 #[.int .i64 z, x.v] w fun e w' => e = .returned (.bool true) ∧ Bel w w' := by
  obtain ⟨k, n, u, b⟩ := x
  unfold Val.v
  dsimp only
  go_enter Tryz.func146, Tryz.ntmps146
  go_wp2
  go_ret
  exact ⟨rfl, by (repeat (first | exact Below.refl _ _ | assumption | exact Bel.refl _ | refine Bel.alloc ?_ _ | refine Bel.drew ?_ | refine Bel.drewN ?_ _ | refine Bel.then_ ?_ (by assumption) | refine Bel.setCell ?_ (by first | (simp; done) | (simp; omega)) _))⟩
theorem sckf_any (z : Int) (x : Val) (w : World) : Calls Tryz.prog 148 #[.int .i64 z, x.v] w fun e w' => e = .returned (.bool (decide ((x.b.size : Int) ≤ z))) ∧ Bel w w' := by
  obtain ⟨k, n, u, b⟩ := x
  unfold Val.v
  dsimp only
  go_enter Tryz.func148, Tryz.ntmps148
  go_wp2
  go_ret
  exact ⟨rfl, by (repeat (first | exact Below.refl _ _ | assumption | exact Bel.refl _ | refine Bel.alloc ?_ _ | refine Bel.drew ?_ | refine Bel.drewN ?_ _ | refine Bel.then_ ?_ (by assumption) | refine Bel.setCell ?_ (by first | (simp; done) | (simp; omega)) _))⟩
theorem skLook1 {t : Int} (h1 : 1 ≤ t) (h4 : t ≤ 4) {b : Nat} {V : World} (hb : V.heap[b]? = some (.map skMap 4)) :
    (Instr.lookup 157 (.map (some b)) (.int .i64 t) false).run Tryz.prog V = .ok (skOf t) V := by
  have hc : t = 1 ∨ t = 2 ∨ t = 3 ∨ t = 4 := by omega
  rcases hc with rfl | rfl | rfl | rfl
  · exact run_lookup_int (k := .i64) Tryz.underlying157 Tryz.underlying42 (i := 0) rfl hb
  · exact run_lookup_int (k := .i64) Tryz.underlying157 Tryz.underlying42 (i := 1) rfl hb
  · exact run_lookup_int (k := .i64) Tryz.underlying157 Tryz.underlying42 (i := 2) rfl hb
  · exact run_lookup_int (k := .i64) Tryz.underlying157 Tryz.underlying42 (i := 3) rfl hb
theorem skFit_is {t : Int} (h1 : 1 ≤ t) (h4 : t ≤ 4) : ∃ f g, skOf t = skV f g t ∧ (∀ args w, (callFunc g args).run Tryz.prog w = .ok (.enter g args) w) ∧
    ∀ z, sizeB t z = true → ∀ x : Val, x.Wf → ∀ w, Calls Tryz.prog g #[.int .i64 z, x.v] w fun e w' => e = .returned (.bool (fitB t z x)) ∧ Bel w w' := by
  have hc : t = 1 ∨ t = 2 ∨ t = 3 ∨ t = 4 := by omega
  rcases hc with rfl | rfl | rfl | rfl
  · exact ⟨_, _, rfl, enters_of Tryz.func143 (by kernel_rfl) rfl, fun z hz x hx w => scka_any z (of_decide_eq_true hz) x hx w⟩
  · exact ⟨_, _, rfl, enters_of Tryz.func144 (by kernel_rfl) rfl, fun z hz x hx w => sckb_any z (of_decide_eq_true hz) x hx w⟩
  · exact ⟨_, _, rfl, enters_of Tryz.func146 (by kernel_rfl) rfl, fun z hz x hx w => sckd_any z x w⟩
  · exact ⟨_, _, rfl, enters_of Tryz.func148 (by kernel_rfl) rfl, fun z hz x hx w => sckf_any z x w⟩
def fitsI (c : Col) (x : Val) : Int := if rightB c = false then 2 else if checkI x ≠ 0 then checkI x else if x.k = 0 then (if c.null then 0 else 131) else if x.k ≠ c.t then 132 else if fitB c.t c.z x = false then 133 else 0
/-- An error as the schema makes it: none, or a fault of this number. -/
def SErr (w : World) (v : Value) (k : Int) : Prop := (k = 0 ∧ v = .nilIface) ∨ (k ≠ 0 ∧ ∃ p, v = .iface 149 (.pointer (some ⟨p, 0, none⟩)) ∧ SFaultAt w p k)
theorem SErr.bel {w w' : World} {v : Value} {k : Int} (h : SErr w v k) (hb : Bel w w') : SErr w' v k := by
  rcases h with h | ⟨h1, p, h2, h3⟩
  · exact .inl h
  · exact .inr ⟨h1, p, h2, h3.bel hb⟩
theorem scnumber_any {w : World} {v : Value} {k : Int} (hg : ErrType w) (h : SErr w v k) : Calls Tryz.prog 52 #[v] w fun e w' => e = .returned (.int .i64 k) ∧ Bel w w' := by
  rcases h with ⟨rfl, rfl⟩ | ⟨h1, p, rfl, h3⟩
  · exact scnumber_nil w
  · exact scnumber_fault p k w hg h3
set_option maxRecDepth 100000 in
set_option maxHeartbeats 4000000 in
theorem scfits_any (c : Col) (x : Val) (hx : x.Wf) (w : World) : Calls Tryz.prog 55 #[c.v, x.v] w fun e w' => ∃ v, e = .returned v ∧ SErr w' v (fitsI c x) ∧ Bel w w' := by
  have HRI := Lib.hid (fun V => scright_any c V)
  have HCH := Lib.hid (fun V => vCheck_any x V)
  have HF : Hid (∀ i, i = fitsI c x → SErr w .nilIface i ∨ True) := fun _ _ => .inr trivial
  obtain ⟨R, hR⟩ : ∃ R, R = fitsI c x := ⟨_, rfl⟩
  rw [← hR]
  have HR := Lib.hid hR
  clear hR HF
  obtain ⟨rb, hrb⟩ : ∃ rb, rb = rightB c := ⟨_, rfl⟩
  rw [← hrb] at HRI
  have HRB := Lib.hid hrb
  obtain ⟨ci, hci⟩ : ∃ ci, ci = checkI x := ⟨_, rfl⟩
  rw [← hci] at HCH
  have HCI := Lib.hid hci
  clear hrb hci
  obtain ⟨name, t, z, null⟩ := c
  obtain ⟨k, n, u, b⟩ := x
  unfold Val.v Col.v at *
  dsimp only at *
  have HCL : Hid (∀ V, Bel ((w.alloc (.cells #[.string name, .int .i64 t, .int .i64 z, .bool null] 44)).alloc (.cells #[.int .i64 k, .int .i64 n, .int .u64 u, .string b] 48)) V →
    (V.cell? ⟨w.heap.size, 0, none⟩ = some (.string name) ∧ V.cell? ⟨w.heap.size, 1, none⟩ = some (.int .i64 t) ∧ V.cell? ⟨w.heap.size, 2, none⟩ = some (.int .i64 z) ∧ V.cell? ⟨w.heap.size, 3, none⟩ = some (.bool null) ∧
     V.cell? ⟨w.heap.size + 1, 0, none⟩ = some (.int .i64 k) ∧ V.cell? ⟨w.heap.size + 1, 1, none⟩ = some (.int .i64 n) ∧ V.cell? ⟨w.heap.size + 1, 2, none⟩ = some (.int .u64 u) ∧ V.cell? ⟨w.heap.size + 1, 3, none⟩ = some (.string b)) ∧ Bel w V) :=
    fun V h => ⟨⟨h.c (by go_simp), h.c (by go_simp), h.c (by go_simp), h.c (by go_simp), h.c (by go_simp), h.c (by go_simp), h.c (by go_simp), h.c (by go_simp)⟩, (((Bel.refl w).alloc _).alloc _).then_ h⟩
  have HLD : Hid (∀ V : World, V.cell? ⟨w.heap.size, 0, none⟩ = some (.string name) ∧ V.cell? ⟨w.heap.size, 1, none⟩ = some (.int .i64 t) → True) := fun _ _ => trivial
  clear HLD
  cases rb
  · have hR2 : R = 2 := by rw [HR.out]; unfold fitsI; rw [if_pos HRB.out.symm]
    go_enter Tryz.func55, Tryz.ntmps55
    go_wp2_with (go_at_call 96; refine (HRI.out _).mono ?_; rintro e w4 ⟨rfl, hb4⟩; obtain ⟨⟨a0, a1, a2, a3, c0, c1, c2, c3⟩, hB4⟩ := HCL.out _ hb4)
    go_ret
    exact ⟨_, rfl, .inr ⟨by omega, _, rfl, _, by rw [hR2]; exact World.alloc_heap_new _ _⟩, hB4.alloc _⟩
  · by_cases hc0 : ci = 0
    · subst hc0
      have HT : Hid (1 ≤ t ∧ t ≤ 4) := by show _ ∧ _; have h := HRB.out; unfold rightB at h; simp at h; exact h.1.1
      have HSZ : Hid (sizeB t z = true) := by show _ = _; have h := HRB.out; unfold rightB at h; simp at h; exact h.2
      go_enter Tryz.func55, Tryz.ntmps55
      go_wp2_with (first | (go_at_call 96; refine (HRI.out _).mono ?_; rintro e w4 ⟨rfl, hb4⟩; obtain ⟨⟨a0, a1, a2, a3, c0, c1, c2, c3⟩, hB4⟩ := HCL.out _ hb4) | (go_at_call 97; refine (HCH.out _).mono ?_; rintro e w5 ⟨rfl, hb5⟩; obtain ⟨⟨d0, d1, d2, d3, e0, e1, e2, e3⟩, hB5⟩ := HCL.out _ (hb4.then_ hb5)))
      obtain ⟨f, g, hsk, egg, hfit⟩ := skFit_is HT.out.1 HT.out.2
      have HLO := Lib.hid (fun (b : Nat) (V : World) (hb : V.heap[b]? = some (.map skMap 4)) => skLook1 HT.out.1 HT.out.2 hb)
      rw [hsk] at HLO
      unfold skV at HLO
      have HGF := Lib.hid (fun V => hfit z HSZ.out ⟨k, n, u, b⟩ hx V)
      clear hfit hsk hx
      obtain ⟨fb, hfb⟩ : ∃ fb, fb = fitB t z ⟨k, n, u, b⟩ := ⟨_, rfl⟩
      rw [← hfb] at HGF
      have HFB := Lib.hid hfb
      clear hfb
      have HB45 := Lib.hid (hb4.then_ hb5)
      have hS : ∀ V, Bel w5 V → (Bel w5 V ∧ V.cell? ⟨w.heap.size, 1, none⟩ = some (.int .i64 t)) := fun V h => ⟨h, h.c d1⟩
      clear a0 a1 a2 a3 c0 c1 c2 c3 hB4 hb4 hb5
      apply wp_cut2 (R := fun bm bx V => Bel w5 V ∧ V.cell? ⟨bx, 1, none⟩ = some (.int .i64 t) ∧ V.cell? ⟨bx, 2, none⟩ = some (.func (.func g) #[] #[]))
      case h =>
        refine wp_region_noPanic ?_
        refine wp_region_held_drew (S := (fun V : World => Bel w5 V ∧ V.cell? ⟨w.heap.size, 1, none⟩ = some (.int .i64 t))) (by kernel_rfl) ?_ (fun hHr9_0 => ?_)
        · (try dsimp only); (first | assumption | exact hS _ (Bel.refl w5).drew | exact hS _ hB2 | exact hS _ (Bel.alloc hB2 _) | exact hS _ (Bel.alloc (Bel.refl w5).drew _) | exact hS _ (Bel.setCell (Bel.setCell (Bel.setCell hB2 (Nat.le_refl _) _) (Nat.le_refl _) _) (Nat.le_refl _) _))
        refine wpAnyH_take (i := 1) (oi := _) (v := ?vr9_1_1) rfl (by kernel_rfl) (by kernel_rfl) (by kernel_rfl) ?hqr9_1_1 (Or.inl ⟨by kernel_rfl, ?hyr9_1_1⟩) (by assumption) ?restr9_1_1
        case hqr9_1_1 => exact fun _ _ _ h => h
        case hyr9_1_1 => (intro w hSw; (try dsimp only at hSw); go_simp; try with_reducible rfl)
        try simp only [Act.put, List.getElem_toArray, List.getElem_cons_succ, List.getElem_cons_zero, List.setIfInBounds_toArray, List.set_cons_zero, List.set_cons_succ]
        refine wpAnyH_take (i := 2) (oi := _) (v := ?vr9_1_2) rfl (by kernel_rfl) (by kernel_rfl) (by kernel_rfl) ?hqr9_1_2 (Or.inl ⟨by kernel_rfl, ?hyr9_1_2⟩) (by assumption) ?restr9_1_2
        case hqr9_1_2 => exact fun _ _ _ h => h
        case hyr9_1_2 => (intro w hSw; (try dsimp only at hSw); go_simp; try with_reducible rfl)
        try simp only [Act.put, List.getElem_toArray, List.getElem_cons_succ, List.getElem_cons_zero, List.setIfInBounds_toArray, List.set_cons_zero, List.set_cons_succ]
        refine wpAnyH_ready (rs := [0, 4]) (by kernel_rfl) (by simp) ?_
        refine AllReadyH.cons (o := _) rfl (fun K hK => ?_) (AllReadyH.cons (o := _) rfl (fun K hK => ?_) (AllReadyH.nil))
        · go_simp
          (go_at_call 98; refine (sckinds_any _).mono ?_; rintro e w2 ⟨bm, rfl, hm, hb2⟩; have hB2 : Bel w5 w2 := Bel.then_ (Bel.refl w5).drew hb2)
          try (go_wp2_with fail)
          refine hK.out _ _ ?_ (fun hHr9_1 => ?_)
          · (try dsimp only); (first | assumption | exact hS _ (Bel.refl w5).drew | exact hS _ hB2 | exact hS _ (Bel.alloc hB2 _) | exact hS _ (Bel.alloc (Bel.refl w5).drew _) | exact hS _ (Bel.setCell (Bel.setCell (Bel.setCell hB2 (Nat.le_refl _) _) (Nat.le_refl _) _) (Nat.le_refl _) _))
          clear hK K hHr9_0
          try simp only [Act.put, List.getElem_toArray, List.getElem_cons_succ, List.getElem_cons_zero, List.setIfInBounds_toArray, List.set_cons_zero, List.set_cons_succ]
          refine wpAnyH_ready (rs := [3, 4]) (by kernel_rfl) (by simp) ?_
          refine AllReadyH.cons (o := _) rfl (fun K hK => ?_) (AllReadyH.cons (o := _) rfl (fun K hK => ?_) (AllReadyH.nil))
          · go_simp
            ((have hlk := HLO.out bm _ hm); go_simp)
            refine hK.out _ _ ?_ (fun hHr9_2 => ?_)
            · (try dsimp only); (first | assumption | exact hS _ (Bel.refl w5).drew | exact hS _ hB2 | exact hS _ (Bel.alloc hB2 _) | exact hS _ (Bel.alloc (Bel.refl w5).drew _) | exact hS _ (Bel.setCell (Bel.setCell (Bel.setCell hB2 (Nat.le_refl _) _) (Nat.le_refl _) _) (Nat.le_refl _) _))
            clear hK K hHr9_1
            try simp only [Act.put, List.getElem_toArray, List.getElem_cons_succ, List.getElem_cons_zero, List.setIfInBounds_toArray, List.set_cons_zero, List.set_cons_succ]
            refine wpAnyH_ready (rs := [4]) (by kernel_rfl) (by simp) ?_
            refine AllReadyH.cons (o := _) rfl (fun K hK => ?_) AllReadyH.nil
            go_simp
            refine hK.out _ _ ?_ (fun hHr9_3 => ?_)
            · (try dsimp only); (first | assumption | exact hS _ (Bel.refl w5).drew | exact hS _ hB2 | exact hS _ (Bel.alloc hB2 _) | exact hS _ (Bel.alloc (Bel.refl w5).drew _) | exact hS _ (Bel.setCell (Bel.setCell (Bel.setCell hB2 (Nat.le_refl _) _) (Nat.le_refl _) _) (Nat.le_refl _) _))
            clear hK K hHr9_2
            try simp only [Act.put, List.getElem_toArray, List.getElem_cons_succ, List.getElem_cons_zero, List.setIfInBounds_toArray, List.set_cons_zero, List.set_cons_succ]
            refine wpAnyH_ready (rs := [5]) (by kernel_rfl) (by simp) ?_
            refine AllReadyH.cons (o := _) rfl (fun K hK => ?_) AllReadyH.nil
            go_simp
            refine hK.out _ _ ?_ (fun hHr9_4 => ?_)
            · (try dsimp only); (first | assumption | exact hS _ (Bel.refl w5).drew | exact hS _ hB2 | exact hS _ (Bel.alloc hB2 _) | exact hS _ (Bel.alloc (Bel.refl w5).drew _) | exact hS _ (Bel.setCell (Bel.setCell (Bel.setCell hB2 (Nat.le_refl _) _) (Nat.le_refl _) _) (Nat.le_refl _) _))
            clear hK K hHr9_3
            try simp only [Act.put, List.getElem_toArray, List.getElem_cons_succ, List.getElem_cons_zero, List.setIfInBounds_toArray, List.set_cons_zero, List.set_cons_succ]
            refine wpAnyH_done (by kernel_rfl) ?_ _
            refine NoPanic.normal ?_
            (refine ⟨bm, w2.heap.size, rfl, ?_, hHr9_4.1, by go_simp, by go_simp⟩; generalize w2.heap.size = bx; exact rfl)
          · go_simp
            refine hK.out _ _ ?_ (fun hHr9_2 => ?_)
            · (try dsimp only); (first | assumption | exact hS _ (Bel.refl w5).drew | exact hS _ hB2 | exact hS _ (Bel.alloc hB2 _) | exact hS _ (Bel.alloc (Bel.refl w5).drew _) | exact hS _ (Bel.setCell (Bel.setCell (Bel.setCell hB2 (Nat.le_refl _) _) (Nat.le_refl _) _) (Nat.le_refl _) _))
            clear hK K hHr9_1
            try simp only [Act.put, List.getElem_toArray, List.getElem_cons_succ, List.getElem_cons_zero, List.setIfInBounds_toArray, List.set_cons_zero, List.set_cons_succ]
            refine wpAnyH_ready (rs := [3]) (by kernel_rfl) (by simp) ?_
            refine AllReadyH.cons (o := _) rfl (fun K hK => ?_) AllReadyH.nil
            go_simp
            ((have hlk := HLO.out bm _ (((Bel.refl w2).alloc (.cells #[.nilFunc, .int .i64 0, .nilFunc] 156)).deferred hm)); go_simp)
            refine hK.out _ _ ?_ (fun hHr9_3 => ?_)
            · (try dsimp only); (first | assumption | exact hS _ (Bel.refl w5).drew | exact hS _ hB2 | exact hS _ (Bel.alloc hB2 _) | exact hS _ (Bel.alloc (Bel.refl w5).drew _) | exact hS _ (Bel.setCell (Bel.setCell (Bel.setCell hB2 (Nat.le_refl _) _) (Nat.le_refl _) _) (Nat.le_refl _) _))
            clear hK K hHr9_2
            try simp only [Act.put, List.getElem_toArray, List.getElem_cons_succ, List.getElem_cons_zero, List.setIfInBounds_toArray, List.set_cons_zero, List.set_cons_succ]
            refine wpAnyH_ready (rs := [5]) (by kernel_rfl) (by simp) ?_
            refine AllReadyH.cons (o := _) rfl (fun K hK => ?_) AllReadyH.nil
            go_simp
            refine hK.out _ _ ?_ (fun hHr9_4 => ?_)
            · (try dsimp only); (first | assumption | exact hS _ (Bel.refl w5).drew | exact hS _ hB2 | exact hS _ (Bel.alloc hB2 _) | exact hS _ (Bel.alloc (Bel.refl w5).drew _) | exact hS _ (Bel.setCell (Bel.setCell (Bel.setCell hB2 (Nat.le_refl _) _) (Nat.le_refl _) _) (Nat.le_refl _) _))
            clear hK K hHr9_3
            try simp only [Act.put, List.getElem_toArray, List.getElem_cons_succ, List.getElem_cons_zero, List.setIfInBounds_toArray, List.set_cons_zero, List.set_cons_succ]
            refine wpAnyH_done (by kernel_rfl) ?_ _
            refine NoPanic.normal ?_
            (refine ⟨bm, w2.heap.size, rfl, ?_, hHr9_4.1, by go_simp, by go_simp⟩; generalize w2.heap.size = bx; exact rfl)
        · go_simp
          refine hK.out _ _ ?_ (fun hHr9_1 => ?_)
          · (try dsimp only); (first | assumption | exact hS _ (Bel.refl w5).drew | exact hS _ hB2 | exact hS _ (Bel.alloc hB2 _) | exact hS _ (Bel.alloc (Bel.refl w5).drew _) | exact hS _ (Bel.setCell (Bel.setCell (Bel.setCell hB2 (Nat.le_refl _) _) (Nat.le_refl _) _) (Nat.le_refl _) _))
          clear hK K hHr9_0
          try simp only [Act.put, List.getElem_toArray, List.getElem_cons_succ, List.getElem_cons_zero, List.setIfInBounds_toArray, List.set_cons_zero, List.set_cons_succ]
          refine wpAnyH_ready (rs := [0]) (by kernel_rfl) (by simp) ?_
          refine AllReadyH.cons (o := _) rfl (fun K hK => ?_) AllReadyH.nil
          go_simp
          (go_at_call 98; refine (sckinds_any _).mono ?_; rintro e w2 ⟨bm, rfl, hm, hb2⟩; have hB2 : Bel w5 w2 := Bel.then_ (Bel.alloc (Bel.refl w5).drew _) hb2; have z0 : w2.cell? ⟨w5.heap.size, 0, none⟩ = some .nilFunc := hb2.c (by go_simp); have y0 : w2.frozen? ⟨w5.heap.size, 0, none⟩ = false := (Below.frozen hb2 (by simp)).trans (by go_simp); have z1 : w2.cell? ⟨w5.heap.size, 1, none⟩ = some (.int .i64 0) := hb2.c (by go_simp); have y1 : w2.frozen? ⟨w5.heap.size, 1, none⟩ = false := (Below.frozen hb2 (by simp)).trans (by go_simp); have z2 : w2.cell? ⟨w5.heap.size, 2, none⟩ = some .nilFunc := hb2.c (by go_simp); have y2 : w2.frozen? ⟨w5.heap.size, 2, none⟩ = false := (Below.frozen hb2 (by simp)).trans (by go_simp))
          try (go_wp2_with fail)
          refine hK.out _ _ ?_ (fun hHr9_2 => ?_)
          · (try dsimp only); (first | assumption | exact hS _ (Bel.refl w5).drew | exact hS _ hB2 | exact hS _ (Bel.alloc hB2 _) | exact hS _ (Bel.alloc (Bel.refl w5).drew _) | exact hS _ (Bel.setCell (Bel.setCell (Bel.setCell hB2 (Nat.le_refl _) _) (Nat.le_refl _) _) (Nat.le_refl _) _))
          clear hK K hHr9_1
          try simp only [Act.put, List.getElem_toArray, List.getElem_cons_succ, List.getElem_cons_zero, List.setIfInBounds_toArray, List.set_cons_zero, List.set_cons_succ]
          refine wpAnyH_ready (rs := [3]) (by kernel_rfl) (by simp) ?_
          refine AllReadyH.cons (o := _) rfl (fun K hK => ?_) AllReadyH.nil
          go_simp
          ((have hlk := HLO.out bm _ hm); go_simp)
          refine hK.out _ _ ?_ (fun hHr9_3 => ?_)
          · (try dsimp only); (first | assumption | exact hS _ (Bel.refl w5).drew | exact hS _ hB2 | exact hS _ (Bel.alloc hB2 _) | exact hS _ (Bel.alloc (Bel.refl w5).drew _) | exact hS _ (Bel.setCell (Bel.setCell (Bel.setCell hB2 (Nat.le_refl _) _) (Nat.le_refl _) _) (Nat.le_refl _) _))
          clear hK K hHr9_2
          try simp only [Act.put, List.getElem_toArray, List.getElem_cons_succ, List.getElem_cons_zero, List.setIfInBounds_toArray, List.set_cons_zero, List.set_cons_succ]
          refine wpAnyH_ready (rs := [5]) (by kernel_rfl) (by simp) ?_
          refine AllReadyH.cons (o := _) rfl (fun K hK => ?_) AllReadyH.nil
          go_simp
          refine hK.out _ _ ?_ (fun hHr9_4 => ?_)
          · (try dsimp only); (first | assumption | exact hS _ (Bel.refl w5).drew | exact hS _ hB2 | exact hS _ (Bel.alloc hB2 _) | exact hS _ (Bel.alloc (Bel.refl w5).drew _) | exact hS _ (Bel.setCell (Bel.setCell (Bel.setCell hB2 (Nat.le_refl _) _) (Nat.le_refl _) _) (Nat.le_refl _) _))
          clear hK K hHr9_3
          try simp only [Act.put, List.getElem_toArray, List.getElem_cons_succ, List.getElem_cons_zero, List.setIfInBounds_toArray, List.set_cons_zero, List.set_cons_succ]
          refine wpAnyH_done (by kernel_rfl) ?_ _
          refine NoPanic.normal ?_
          (refine ⟨bm, w5.heap.size, rfl, ?_, hHr9_4.1, by go_simp, by go_simp⟩; generalize w5.heap.size = bx; exact rfl)
      case k =>
        rintro bm bx V ⟨hb, hk1, hk2⟩
        obtain ⟨⟨a0, a1, a2, a3, c0, c1, c2, c3⟩, hBV⟩ := HCL.out _ (HB45.out.then_ hb)
        have HBV := Lib.hid hBV
        have HBB := Lib.hid (HB45.out.then_ hb)
        clear d0 d1 d2 d3 e0 e1 e2 e3 hB5 hS hb hBV HB45
        by_cases hk0 : k = 0
        · subst hk0
          cases null
          · have hR2 : R = 131 := by rw [HR.out]; unfold fitsI; rw [if_neg (by rw [← HRB.out]; simp), if_neg (by rw [← HCI.out]; simp)]; rfl
            go_wp2
            go_ret
            exact ⟨_, rfl, .inr ⟨by omega, _, rfl, _, by rw [hR2]; exact World.alloc_heap_new _ _⟩, HBV.out.alloc _⟩
          · have hR2 : R = 0 := by rw [HR.out]; unfold fitsI; rw [if_neg (by rw [← HRB.out]; simp), if_neg (by rw [← HCI.out]; simp)]; rfl
            go_wp2
            go_ret
            exact ⟨_, rfl, .inl ⟨hR2, rfl⟩, HBV.out⟩
        · have hk0b : (k == 0) = false := by rw [beq_eq_false_iff_ne]; exact hk0
          by_cases hkt : k = t
          · subst hkt
            have hktb : (k != k) = false := by simp
            have hR2 : R = if fb = false then 133 else 0 := by
              rw [HR.out]; unfold fitsI; rw [if_neg (by rw [← HRB.out]; simp), if_neg (by rw [← HCI.out]; simp), if_neg hk0, if_neg (by intro h; exact h rfl), HFB.out]
            cases fb
            · go_wp2_with (go_at_fn g; refine (HGF.out _).mono ?_; rintro e w8 ⟨rfl, hb8⟩; obtain ⟨⟨d0, d1, d2, d3, e0, e1, e2, e3⟩, hB8⟩ := HCL.out _ (HBB.out.then_ hb8))
              go_ret
              exact ⟨_, rfl, .inr ⟨by rw [hR2]; decide, _, rfl, _, by rw [hR2]; exact World.alloc_heap_new _ _⟩, hB8.alloc _⟩
            · go_wp2_with (go_at_fn g; refine (HGF.out _).mono ?_; rintro e w8 ⟨rfl, hb8⟩; obtain ⟨⟨d0, d1, d2, d3, e0, e1, e2, e3⟩, hB8⟩ := HCL.out _ (HBB.out.then_ hb8))
              go_ret
              exact ⟨_, rfl, .inl ⟨by rw [hR2]; rfl, rfl⟩, hB8⟩
          · have hktb : (k != t) = true := by rw [bne_iff_ne]; exact hkt
            have hR2 : R = 132 := by
              rw [HR.out]; unfold fitsI; rw [if_neg (by rw [← HRB.out]; simp), if_neg (by rw [← HCI.out]; simp), if_neg hk0, if_pos hkt]
            go_wp2
            go_ret
            exact ⟨_, rfl, .inr ⟨by omega, _, rfl, _, by rw [hR2]; exact World.alloc_heap_new _ _⟩, HBV.out.alloc _⟩
    · have hcb : (ci == 0) = false := by rw [beq_eq_false_iff_ne]; exact hc0
      have hR2 : R = ci := by rw [HR.out]; unfold fitsI; rw [if_neg (by rw [← HRB.out]; simp), if_pos (by rw [← HCI.out]; exact hc0), HCI.out]
      go_enter Tryz.func55, Tryz.ntmps55
      go_wp2_with (first | (go_at_call 96; refine (HRI.out _).mono ?_; rintro e w4 ⟨rfl, hb4⟩; obtain ⟨⟨a0, a1, a2, a3, c0, c1, c2, c3⟩, hB4⟩ := HCL.out _ hb4) | (go_at_call 97; refine (HCH.out _).mono ?_; rintro e w5 ⟨rfl, hb5⟩; obtain ⟨⟨d0, d1, d2, d3, e0, e1, e2, e3⟩, hB5⟩ := HCL.out _ (hb4.then_ hb5)))
      go_ret
      exact ⟨_, rfl, .inr ⟨by omega, _, rfl, _, by rw [hR2]; exact World.alloc_heap_new _ _⟩, hB5.alloc _⟩
theorem scFits_any (c : Col) (x : Val) (hx : x.Wf) (w : World) (hg : ErrType w) : Calls Tryz.prog 23 #[c.v, x.v] w fun e w' => e = .returned (.int .i64 (fitsI c x)) ∧ Bel w w' := by
  have HF := Lib.hid (fun V => scfits_any c x hx V)
  have HG := Lib.hid hg
  obtain ⟨R, hR⟩ : ∃ R, R = fitsI c x := ⟨_, rfl⟩
  rw [← hR] at HF ⊢
  clear hR hg
  obtain ⟨name, t, z, null⟩ := c
  obtain ⟨k, n, u, b⟩ := x
  unfold Val.v Col.v at *
  dsimp only at *
  go_enter Tryz.func23, Tryz.ntmps23
  go_wp2_with fail
  refine (HF.out _).mono ?_
  rintro e w1 ⟨v, rfl, hv, hb⟩
  have hbb : Bel w w1 := (((Bel.refl w).alloc _).alloc _).then_ hb
  have HN := Lib.hid (scnumber_any (HG.out.bel hbb) hv)
  have HB := Lib.hid hbb
  clear hv hb hbb HF
  go_wp2_with (go_at_call 52; refine HN.out.mono ?_; rintro e w2 ⟨rfl, hb2⟩)
  go_ret
  exact ⟨rfl, HB.out.then_ hb2⟩
end Go.Proofs.YtkklmflclmgjeaaGreatDoor
