/-
  The law PaceHolds: the walk.
-/
import Derived.Test.YtnajjhgbombboaaCth
import Derived.Deep.RegionHeld3
set_option linter.unusedVariables false
set_option linter.unusedSimpArgs false
set_option linter.unusedVariables false
set_option linter.unusedSimpArgs false
namespace Go.Proofs.Ytnajjhgbombboaa
open Go.RowKit Go.Shelf Go.Lib
attribute [local go_sem] Oper.semAt_some

/-- What an act may do to a pace: where it says no error. -/
def StepOk (n s e y1 y2 y3 f : Int) : Prop := f = 0 → okB y1 y2 y3 = true ∧ y1 - y3 ≤ n - e + 1 ∧ (n - e < y1 - y3 → y1 = n + 1) ∧ e ≤ y3 ∧ s ≤ y2
theorem okB_mk {n s e : Int} (h : 0 ≤ n ∧ n ≤ 1099511627776 ∧ 0 ≤ s ∧ s ≤ n ∧ 0 ≤ e ∧ e ≤ n) : okB n s e = true := by simp [okB]; omega
theorem tickS (n s e : Int) (w : World) (h : okB n s e = true) : Calls Try.prog 6 #[.agg #[.int .i64 n, .int .i64 s, .int .i64 e]] w fun e' w' => ∃ y1 y2 y3 f, e' = .returned (.tuple #[.agg #[.int .i64 y1, .int .i64 y2, .int .i64 y3], .int .i64 f]) ∧ StepOk n s e y1 y2 y3 f ∧ Bel w w' := by
  by_cases hn : (n == 1099511627776) = true
  · exact (tick_full n s e w h hn).mono fun e' w' ⟨h1, h2⟩ => ⟨_, _, _, _, h1, fun h => by omega, h2⟩
  · rw [Bool.not_eq_true] at hn
    refine (tick_yes n s e w h hn).mono fun e' w' ⟨h1, h2⟩ => ⟨_, _, _, _, h1, fun _ => ?_, h2⟩
    have := ok_of h
    have hn' : n ≠ 1099511627776 := by simpa using hn
    exact ⟨okB_mk (by omega), by omega, by omega, by omega, by omega⟩
theorem sendS (n s e : Int) (w : World) (h : okB n s e = true) : Calls Try.prog 7 #[.agg #[.int .i64 n, .int .i64 s, .int .i64 e]] w fun e' w' => ∃ y1 y2 y3 b f, e' = .returned (.tuple #[.agg #[.int .i64 y1, .int .i64 y2, .int .i64 y3], .bool b, .int .i64 f]) ∧ StepOk n s e y1 y2 y3 f ∧ Bel w w' := by
  refine (send_yes n s e w h).mono fun e' w' ⟨h1, h2⟩ => ⟨_, _, _, _, _, h1, fun _ => ?_, h2⟩
  have := ok_of h
  exact ⟨okB_mk (by omega), by omega, by omega, by omega, by omega⟩
theorem seeS (n s e b : Int) (w : World) (h : okB n s e = true) : Calls Try.prog 8 #[.agg #[.int .i64 n, .int .i64 s, .int .i64 e], .int .i64 b] w fun e' w' => ∃ y1 y2 y3 f, e' = .returned (.tuple #[.agg #[.int .i64 y1, .int .i64 y2, .int .i64 y3], .int .i64 f]) ∧ StepOk n s e y1 y2 y3 f ∧ Bel w w' := by
  by_cases hb : b < 0
  · exact (see_no n s e b w (.inr hb)).mono fun e' w' ⟨h1, h2⟩ => ⟨_, _, _, _, h1, fun h => by omega, h2⟩
  · by_cases hb2 : b ≤ n
    · refine (see_yes n s e b w h (by omega) hb2).mono fun e' w' ⟨h1, h2⟩ => ⟨_, _, _, _, h1, fun _ => ?_, h2⟩
      have := ok_of h
      split <;> exact ⟨okB_mk (by omega), by omega, by omega, by omega, by omega⟩
    · exact (see_late n s e b w h (by omega) (by omega)).mono fun e' w' ⟨h1, h2⟩ => ⟨_, _, _, _, h1, fun h => by omega, h2⟩

theorem add_one_ (a : Addr) : a.add 1 = ⟨a.block, a.off + 1, none⟩ := rfl
/-- The acts. -/
def ActsAt (w : World) (A : Option Addr) (l : List (Int × Int)) : Prop := Reads w w.heap.size 2 A l.length (l.flatMap fun x => [.int .i64 x.1, .int .i64 x.2])
theorem acts_cells : ∀ (l : List (Int × Int)) (k : Nat) (x : Int × Int), l[k]? = some x → (l.flatMap fun x => [Value.int .i64 x.1, Value.int .i64 x.2])[k * 2]? = some (.int .i64 x.1) ∧ (l.flatMap fun x => [Value.int .i64 x.1, Value.int .i64 x.2])[k * 2 + 1]? = some (.int .i64 x.2)
  | [], k, x, h => by simp at h
  | y :: l, 0, x, h => by simp at h; subst h; simp
  | y :: l, k + 1, x, h => by
    have := acts_cells l k x (by simpa using h)
    simp only [List.flatMap_cons]
    rw [show (k + 1) * 2 = k * 2 + 2 by omega, show k * 2 + 2 + 1 = k * 2 + 1 + 2 by omega]
    exact this
theorem ActsAt.at_ {w : World} {A : Option Addr} {l : List (Int × Int)} {k : Nat} {x : Int × Int} (h : ActsAt w A l) (hx : l[k]? = some x) : ∃ ad, A = some ad ∧ ad.block < w.heap.size ∧ w.cell? (ad.add (k * 2)) = some (.int .i64 x.1) ∧ w.cell? ((ad.add (k * 2)).add 1) = some (.int .i64 x.2) := by
  have hl : k < l.length := (List.getElem?_eq_some_iff.1 hx).1
  obtain ⟨ad, rfl, hb, hc⟩ := h.2 (by omega)
  obtain ⟨h1, h2⟩ := acts_cells l k x hx
  exact ⟨ad, rfl, hb, hc _ _ h1, by rw [add_of_add]; exact hc _ _ h2⟩
set_option maxRecDepth 100000 in
set_option maxHeartbeats 4000000 in
theorem paceHolds_any (l : List (Int × Int)) (LA : Option Addr) (cL : Nat) (p : Prg) (ks : List ByteArray) (A : Option Addr) (c : Nat) (w : World) (hl : ActsAt w LA l) (hr : Reads w w.heap.size 1 A ks.length (ks.map .string)) :
    Calls Try.prog 3 #[.slice LA l.length cL, p.v A ks.length c] w fun e w' => e = .returned (.bool true) ∧ Bel w w' := by
  obtain ⟨ph, cu, fu, sg, pt, bt⟩ := p
  have HR := Lib.hid hr
  have HLA := Lib.hid hl
  have HP : Hid (Prg.v ⟨ph, cu, fu, sg, pt, bt⟩ A ks.length c = .agg #[.int .i64 ph, .string cu, .bool fu, .int .i64 sg, .int .i64 pt, .int .i64 bt, .slice A ks.length c]) := Lib.hid rfl
  rw [HP.out]
  clear hr hl
  by_cases hsmall : l.length ≤ 60 ∧ ks.length ≤ 20
  · obtain ⟨hl60, hk20⟩ := hsmall
    have hlI : (l.length : Int) ≤ 60 := by omega
    have hkI : (ks.length : Int) ≤ 20 := by omega
    go_enter Try.func3, Try.ntmps3
    go_wp2
    go_loopw [6] (fun i wr => ∃ (k : Nat) (n s e : Int), k ≤ l.length ∧ i = .int .i64 k ∧ okB n s e = true ∧ Bel w wr ∧ Blk wr w.heap.size 28 #[.int .i64 ph, .string cu, .bool fu, .int .i64 sg, .int .i64 pt, .int .i64 bt, .slice A ks.length c] ∧ Blk wr (w.heap.size + 1) 31 #[.int .i64 n, .int .i64 s, .int .i64 e]) (fun i _ => l.length - (intOf i).toNat)
    case atStart => exact ⟨0, 0, 0, 0, by omega, rfl, rfl, by (repeat (first | exact Below.refl _ _ | assumption | exact Bel.refl _ | refine Bel.alloc ?_ _ | refine Bel.drew ?_ | refine Bel.drewN ?_ _ | refine Bel.then_ ?_ (by assumption) | refine Bel.setCell ?_ (by first | (simp; done) | (simp; omega)) _)), (Blk.new w _ _).alloc _, blk_new1 w _ _ _⟩
    case round =>
      obtain ⟨k, n, s, e, hk, rfl, hok, hB, hBP, hBX⟩ := hrel
      have hXl := hBX.lt
      have hPl := hBP.lt
      have x0 := hBX.cell 0
      have x1 := hBX.cell 1
      have x2 := hBX.cell 2
      simp only [List.getElem?_toArray, List.getElem?_cons_zero, List.getElem?_cons_succ] at x0 x1 x2
      by_cases hlt : k < l.length
      · go_wp2_with fail
        refine (lag_yes _ _ _ _ hok).mono ?_
        rintro e1 w1 ⟨rfl, hb1⟩
        have hBX1 : Blk w1 (w.heap.size + 1) 31 #[.int .i64 n, .int .i64 s, .int .i64 e] := (hBX.alloc _).below hb1 (by simp; omega)
        have hBP1 := (hBP.alloc _).below hb1 (by simp; omega)
        have hBW1 := (Blk.new wr _ _).below hb1 (by simp)
        have hw1 := (hB.alloc _).then_ hb1
        have hXw := hXl
        clear hb1 x0 x1 x2 hBX hBP hXl
        obtain ⟨x, hx⟩ : ∃ x, l[k]? = some x := ⟨_, List.getElem?_eq_getElem hlt⟩
        obtain ⟨ad, rfl, hadb, a0, a1⟩ := HLA.out.at_ hx
        have g0 : ∀ o, (w1.alloc o).cell? (ad.add (k * 2)) = some (.int .i64 x.1) := fun o => ((hw1.alloc o).cell (by rw [block_of_add]; exact hadb)).trans a0
        have g1 : ∀ o, (w1.alloc o).cell? ((ad.add (k * 2)).add 1) = some (.int .i64 x.2) := fun o => ((hw1.alloc o).cell (by rw [block_of_add, block_of_add]; exact hadb)).trans a1
        obtain ⟨act, beat⟩ := x
        simp only at g0 g1
        clear a0 a1 hx
        have hXl := hBX1.lt
        have hWl := hBW1.lt
        generalize hbw : wr.heap.size = bw at *
        have x0 := hBX1.cell 0
        have x1 := hBX1.cell 1
        have x2 := hBX1.cell 2
        simp only [List.getElem?_toArray, List.getElem?_cons_zero, List.getElem?_cons_succ] at x0 x1 x2
        by_cases h0 : act = 0
        · subst h0
          go_wp2_with fail
          refine (tickS n s e _ hok).mono ?_
          rintro e2 w2 ⟨y1, y2, y3, f, rfl, hst, hb2⟩
          have hBX2 := (hBX1.alloc _).below hb2 (by first | (simp; done) | (simp; omega))
          have hBP2 := (hBP1.alloc _).below hb2 (by first | (simp; done) | (simp; omega))
          have hBW2 := (hBW1.alloc _).below hb2 (by first | (simp; done) | (simp; omega))
          have hBY2 := (Blk.new w1 _ _).below hb2 (by simp)
          have hw2 := (hw1.alloc _).then_ hb2
          clear hb2 hBX1 hBP1 hBW1 x0 x1 x2
          have hXYl : w.heap.size + 1 < w1.heap.size := hXl
          have hWYl : bw < w1.heap.size := hWl
          generalize w1.heap.size = bY at *
          have xx0 := hBX2.cell 0
          have xx1 := hBX2.cell 1
          have xx2 := hBX2.cell 2
          simp only [List.getElem?_toArray, List.getElem?_cons_zero, List.getElem?_cons_succ] at xx0 xx1 xx2
          have xxf0 := hBX2.frozen 0
          have xxf1 := hBX2.frozen 1
          have xxf2 := hBX2.frozen 2
          have yy0 := hBY2.cell 0
          have yy1 := hBY2.cell 1
          have yy2 := hBY2.cell 2
          simp only [List.getElem?_toArray, List.getElem?_cons_zero, List.getElem?_cons_succ] at yy0 yy1 yy2
          have yyf0 := hBY2.frozen 0
          have yyf1 := hBY2.frozen 1
          have yyf2 := hBY2.frozen 2
          have hne1 : w.heap.size + 1 ≠ bY := (by omega)
          have hne2 : bY ≠ w.heap.size + 1 := (by omega)
          have hBX3 := (((hBX2.far (p := ⟨bY, 0, none⟩) (by first | omega | (simp; done) | (simp; omega)) (.int .i64 y1)).far (p := ⟨bY, 1, none⟩) (by first | omega | (simp; done) | (simp; omega)) (.int .i64 y2)).far (p := ⟨bY, 2, none⟩) (by first | omega | (simp; done) | (simp; omega)) (.int .i64 y3))
          have hBP3 := (((hBP2.far (p := ⟨bY, 0, none⟩) (by first | omega | (simp; done) | (simp; omega)) (.int .i64 y1)).far (p := ⟨bY, 1, none⟩) (by first | omega | (simp; done) | (simp; omega)) (.int .i64 y2)).far (p := ⟨bY, 2, none⟩) (by first | omega | (simp; done) | (simp; omega)) (.int .i64 y3))
          have hBW3 := (((hBW2.far (p := ⟨bY, 0, none⟩) (by first | omega | (simp; done) | (simp; omega)) (.int .i64 y1)).far (p := ⟨bY, 1, none⟩) (by first | omega | (simp; done) | (simp; omega)) (.int .i64 y2)).far (p := ⟨bY, 2, none⟩) (by first | omega | (simp; done) | (simp; omega)) (.int .i64 y3))
          have hw3 := (((hw2.setCell (p := ⟨bY, 0, none⟩) (by first | omega | (simp; done) | (simp; omega)) (.int .i64 y1)).setCell (p := ⟨bY, 1, none⟩) (by first | omega | (simp; done) | (simp; omega)) (.int .i64 y2)).setCell (p := ⟨bY, 2, none⟩) (by first | omega | (simp; done) | (simp; omega)) (.int .i64 y3))
          by_cases hf : f = 0
          · subst hf
            obtain ⟨hok2, d1, d2, d3, d4⟩ := hst rfl
            clear hst
            have hBX4 : Blk _ (w.heap.size + 1) 31 #[.int .i64 y1, .int .i64 y2, .int .i64 y3] := (((hBX3.set_ 0 (.int .i64 y1)).set_ 1 (.int .i64 y2)).set_ 2 (.int .i64 y3))
            have hBP4 := (((hBP3.far (p := ⟨w.heap.size + 1, 0, none⟩) (by first | omega | (simp; done) | (simp; omega)) (.int .i64 y1)).far (p := ⟨w.heap.size + 1, 1, none⟩) (by first | omega | (simp; done) | (simp; omega)) (.int .i64 y2)).far (p := ⟨w.heap.size + 1, 2, none⟩) (by first | omega | (simp; done) | (simp; omega)) (.int .i64 y3))
            have hBW4 := (((hBW3.far (p := ⟨w.heap.size + 1, 0, none⟩) (by first | omega | (simp; done) | (simp; omega)) (.int .i64 y1)).far (p := ⟨w.heap.size + 1, 1, none⟩) (by first | omega | (simp; done) | (simp; omega)) (.int .i64 y2)).far (p := ⟨w.heap.size + 1, 2, none⟩) (by first | omega | (simp; done) | (simp; omega)) (.int .i64 y3))
            have hw4 := (((hw3.setCell (p := ⟨w.heap.size + 1, 0, none⟩) (by simp) (.int .i64 y1)).setCell (p := ⟨w.heap.size + 1, 1, none⟩) (by simp) (.int .i64 y2)).setCell (p := ⟨w.heap.size + 1, 2, none⟩) (by simp) (.int .i64 y3))
            clear hBX2 hBP2 hBW2 hBY2 hBX3 hBP3 hBW3 hw3 hw2
            have HB4 := Lib.hid (And.intro hBX4 (And.intro hBP4 (And.intro hBW4 hw4)))
            clear hBX4 hBP4 hBW4 hw4
            go_wp2_with (first | (go_at_call 9; go_in))
            refine (lag_yes _ _ _ _ hok2).mono ?_
            rintro e5 w5 ⟨rfl, hb5⟩
            have hBX5 := HB4.out.1.below hb5 HB4.out.1.lt
            have hBP5 := HB4.out.2.1.below hb5 HB4.out.2.1.lt
            have hBW5 := HB4.out.2.2.1.below hb5 HB4.out.2.2.1.lt
            have hw5 := HB4.out.2.2.2.then_ hb5
            clear HB4 hb5 xx0 xx1 xx2 xxf0 xxf1 xxf2 yy0 yy1 yy2 yyf0 yyf1 yyf2
            have q0 := hBX5.cell 0
            have q1 := hBX5.cell 1
            have q2 := hBX5.cell 2
            simp only [List.getElem?_toArray, List.getElem?_cons_zero, List.getElem?_cons_succ] at q0 q1 q2
            have r0 := hBW5.cell 0
            have r1 := hBW5.cell 1
            have r2 := hBW5.cell 2
            simp only [List.getElem?_toArray, List.getElem?_cons_zero, List.getElem?_cons_succ] at r0 r1 r2
            have hk1 := ok_of hok
            have hk2 := ok_of hok2
            go_wp2_with (first | (go_at_call 10; refine (check_yes _ _ _ _ (by first | exact hok2 | (have hkx := ok_of hok2; exact okB_mk (by omega)))).mono ?_; rintro e9 w9 ⟨rfl, hb9⟩) | go_in)
            all_goals first
              | (exfalso; omega)
              | (go_roundw
                 case rel => exact ⟨k + 1, y1, y2, y3, by omega, by go_num, hok2, hw5.then_ hb9, hBP5.below hb9 hBP5.lt, hBX5.below hb9 hBX5.lt⟩
                 case measure => simp [intOf]; omega)
          · have hfn : (f == 0) = false := by simp; exact hf
            clear hst
            have HB4 := Lib.hid (And.intro hBX3 (And.intro hBP3 (And.intro hBW3 hw3)))
            clear hBX2 hBP2 hBW2 hBY2 hBX3 hBP3 hBW3 hw3 hw2
            go_wp2_with (first | (go_at_call 9; go_in))
            refine (lag_yes _ _ _ _ hok).mono ?_
            rintro e5 w5 ⟨rfl, hb5⟩
            have hBX5 := HB4.out.1.below hb5 HB4.out.1.lt
            have hBP5 := HB4.out.2.1.below hb5 HB4.out.2.1.lt
            have hBW5 := HB4.out.2.2.1.below hb5 HB4.out.2.2.1.lt
            have hw5 := HB4.out.2.2.2.then_ hb5
            clear HB4 hb5 xx0 xx1 xx2 xxf0 xxf1 xxf2 yy0 yy1 yy2 yyf0 yyf1 yyf2
            have q0 := hBX5.cell 0
            have q1 := hBX5.cell 1
            have q2 := hBX5.cell 2
            simp only [List.getElem?_toArray, List.getElem?_cons_zero, List.getElem?_cons_succ] at q0 q1 q2
            have r0 := hBW5.cell 0
            have r1 := hBW5.cell 1
            have r2 := hBW5.cell 2
            simp only [List.getElem?_toArray, List.getElem?_cons_zero, List.getElem?_cons_succ] at r0 r1 r2
            have hk1 := ok_of hok
            go_wp2_with (first | (go_at_call 10; refine (check_yes _ _ _ _ (by first | exact hok | (have hkx := ok_of hok; exact okB_mk (by omega)))).mono ?_; rintro e9 w9 ⟨rfl, hb9⟩) | go_in)
            all_goals first
              | (exfalso; omega)
              | (go_roundw
                 case rel => exact ⟨k + 1, n, s, e, by omega, by go_num, hok, hw5.then_ hb9, hBP5.below hb9 hBP5.lt, hBX5.below hb9 hBX5.lt⟩
                 case measure => simp [intOf]; omega)
        · by_cases h1 : act = 1
          · subst h1
            go_wp2_with fail
            refine (tickS n s e _ hok).mono ?_
            rintro e2 w2 ⟨y1, y2, y3, f, rfl, hst, hb2⟩
            have hBX2 := (hBX1.alloc _).below hb2 (by first | (simp; done) | (simp; omega))
            have hBP2 := (hBP1.alloc _).below hb2 (by first | (simp; done) | (simp; omega))
            have hBW2 := (hBW1.alloc _).below hb2 (by first | (simp; done) | (simp; omega))
            have hBY2 := (Blk.new w1 _ _).below hb2 (by simp)
            have hw2 := (hw1.alloc _).then_ hb2
            clear hb2 hBX1 hBP1 hBW1 x0 x1 x2
            have hXYl : w.heap.size + 1 < w1.heap.size := hXl
            have hWYl : bw < w1.heap.size := hWl
            generalize w1.heap.size = bY at *
            have xx0 := hBX2.cell 0
            have xx1 := hBX2.cell 1
            have xx2 := hBX2.cell 2
            simp only [List.getElem?_toArray, List.getElem?_cons_zero, List.getElem?_cons_succ] at xx0 xx1 xx2
            have xxf0 := hBX2.frozen 0
            have xxf1 := hBX2.frozen 1
            have xxf2 := hBX2.frozen 2
            have yy0 := hBY2.cell 0
            have yy1 := hBY2.cell 1
            have yy2 := hBY2.cell 2
            simp only [List.getElem?_toArray, List.getElem?_cons_zero, List.getElem?_cons_succ] at yy0 yy1 yy2
            have yyf0 := hBY2.frozen 0
            have yyf1 := hBY2.frozen 1
            have yyf2 := hBY2.frozen 2
            have hne1 : w.heap.size + 1 ≠ bY := (by omega)
            have hne2 : bY ≠ w.heap.size + 1 := (by omega)
            have hBX3 := (((hBX2.far (p := ⟨bY, 0, none⟩) (by first | omega | (simp; done) | (simp; omega)) (.int .i64 y1)).far (p := ⟨bY, 1, none⟩) (by first | omega | (simp; done) | (simp; omega)) (.int .i64 y2)).far (p := ⟨bY, 2, none⟩) (by first | omega | (simp; done) | (simp; omega)) (.int .i64 y3))
            have hBP3 := (((hBP2.far (p := ⟨bY, 0, none⟩) (by first | omega | (simp; done) | (simp; omega)) (.int .i64 y1)).far (p := ⟨bY, 1, none⟩) (by first | omega | (simp; done) | (simp; omega)) (.int .i64 y2)).far (p := ⟨bY, 2, none⟩) (by first | omega | (simp; done) | (simp; omega)) (.int .i64 y3))
            have hBW3 := (((hBW2.far (p := ⟨bY, 0, none⟩) (by first | omega | (simp; done) | (simp; omega)) (.int .i64 y1)).far (p := ⟨bY, 1, none⟩) (by first | omega | (simp; done) | (simp; omega)) (.int .i64 y2)).far (p := ⟨bY, 2, none⟩) (by first | omega | (simp; done) | (simp; omega)) (.int .i64 y3))
            have hw3 := (((hw2.setCell (p := ⟨bY, 0, none⟩) (by first | omega | (simp; done) | (simp; omega)) (.int .i64 y1)).setCell (p := ⟨bY, 1, none⟩) (by first | omega | (simp; done) | (simp; omega)) (.int .i64 y2)).setCell (p := ⟨bY, 2, none⟩) (by first | omega | (simp; done) | (simp; omega)) (.int .i64 y3))
            by_cases hf : f = 0
            · subst hf
              obtain ⟨hok2, d1, d2, d3, d4⟩ := hst rfl
              clear hst
              have hBX4 : Blk _ (w.heap.size + 1) 31 #[.int .i64 y1, .int .i64 y2, .int .i64 y3] := (((hBX3.set_ 0 (.int .i64 y1)).set_ 1 (.int .i64 y2)).set_ 2 (.int .i64 y3))
              have hBP4 := (((hBP3.far (p := ⟨w.heap.size + 1, 0, none⟩) (by first | omega | (simp; done) | (simp; omega)) (.int .i64 y1)).far (p := ⟨w.heap.size + 1, 1, none⟩) (by first | omega | (simp; done) | (simp; omega)) (.int .i64 y2)).far (p := ⟨w.heap.size + 1, 2, none⟩) (by first | omega | (simp; done) | (simp; omega)) (.int .i64 y3))
              have hBW4 := (((hBW3.far (p := ⟨w.heap.size + 1, 0, none⟩) (by first | omega | (simp; done) | (simp; omega)) (.int .i64 y1)).far (p := ⟨w.heap.size + 1, 1, none⟩) (by first | omega | (simp; done) | (simp; omega)) (.int .i64 y2)).far (p := ⟨w.heap.size + 1, 2, none⟩) (by first | omega | (simp; done) | (simp; omega)) (.int .i64 y3))
              have hw4 := (((hw3.setCell (p := ⟨w.heap.size + 1, 0, none⟩) (by simp) (.int .i64 y1)).setCell (p := ⟨w.heap.size + 1, 1, none⟩) (by simp) (.int .i64 y2)).setCell (p := ⟨w.heap.size + 1, 2, none⟩) (by simp) (.int .i64 y3))
              clear hBX2 hBP2 hBW2 hBY2 hBX3 hBP3 hBW3 hw3 hw2
              have HB4 := Lib.hid (And.intro hBX4 (And.intro hBP4 (And.intro hBW4 hw4)))
              clear hBX4 hBP4 hBW4 hw4
              go_wp2_with (first | (go_at_call 9; go_in))
              refine (lag_yes _ _ _ _ hok2).mono ?_
              rintro e5 w5 ⟨rfl, hb5⟩
              have hBX5 := HB4.out.1.below hb5 HB4.out.1.lt
              have hBP5 := HB4.out.2.1.below hb5 HB4.out.2.1.lt
              have hBW5 := HB4.out.2.2.1.below hb5 HB4.out.2.2.1.lt
              have hw5 := HB4.out.2.2.2.then_ hb5
              clear HB4 hb5 xx0 xx1 xx2 xxf0 xxf1 xxf2 yy0 yy1 yy2 yyf0 yyf1 yyf2
              have q0 := hBX5.cell 0
              have q1 := hBX5.cell 1
              have q2 := hBX5.cell 2
              simp only [List.getElem?_toArray, List.getElem?_cons_zero, List.getElem?_cons_succ] at q0 q1 q2
              have r0 := hBW5.cell 0
              have r1 := hBW5.cell 1
              have r2 := hBW5.cell 2
              simp only [List.getElem?_toArray, List.getElem?_cons_zero, List.getElem?_cons_succ] at r0 r1 r2
              have hk1 := ok_of hok
              have hk2 := ok_of hok2
              go_wp2_with (first | (go_at_call 10; refine (check_yes _ _ _ _ (by first | exact hok2 | (have hkx := ok_of hok2; exact okB_mk (by omega)))).mono ?_; rintro e9 w9 ⟨rfl, hb9⟩) | go_in)
              all_goals first
                | (exfalso; omega)
                | (go_roundw
                   case rel => exact ⟨k + 1, y1, y2, y3, by omega, by go_num, hok2, hw5.then_ hb9, hBP5.below hb9 hBP5.lt, hBX5.below hb9 hBX5.lt⟩
                   case measure => simp [intOf]; omega)
            · have hfn : (f == 0) = false := by simp; exact hf
              clear hst
              have HB4 := Lib.hid (And.intro hBX3 (And.intro hBP3 (And.intro hBW3 hw3)))
              clear hBX2 hBP2 hBW2 hBY2 hBX3 hBP3 hBW3 hw3 hw2
              go_wp2_with (first | (go_at_call 9; go_in))
              refine (lag_yes _ _ _ _ hok).mono ?_
              rintro e5 w5 ⟨rfl, hb5⟩
              have hBX5 := HB4.out.1.below hb5 HB4.out.1.lt
              have hBP5 := HB4.out.2.1.below hb5 HB4.out.2.1.lt
              have hBW5 := HB4.out.2.2.1.below hb5 HB4.out.2.2.1.lt
              have hw5 := HB4.out.2.2.2.then_ hb5
              clear HB4 hb5 xx0 xx1 xx2 xxf0 xxf1 xxf2 yy0 yy1 yy2 yyf0 yyf1 yyf2
              have q0 := hBX5.cell 0
              have q1 := hBX5.cell 1
              have q2 := hBX5.cell 2
              simp only [List.getElem?_toArray, List.getElem?_cons_zero, List.getElem?_cons_succ] at q0 q1 q2
              have r0 := hBW5.cell 0
              have r1 := hBW5.cell 1
              have r2 := hBW5.cell 2
              simp only [List.getElem?_toArray, List.getElem?_cons_zero, List.getElem?_cons_succ] at r0 r1 r2
              have hk1 := ok_of hok
              go_wp2_with (first | (go_at_call 10; refine (check_yes _ _ _ _ (by first | exact hok | (have hkx := ok_of hok; exact okB_mk (by omega)))).mono ?_; rintro e9 w9 ⟨rfl, hb9⟩) | go_in)
              all_goals first
                | (exfalso; omega)
                | (go_roundw
                   case rel => exact ⟨k + 1, n, s, e, by omega, by go_num, hok, hw5.then_ hb9, hBP5.below hb9 hBP5.lt, hBX5.below hb9 hBX5.lt⟩
                   case measure => simp [intOf]; omega)
          · by_cases h2 : act = 2
            · subst h2
              go_wp2_with fail
              refine (sendS n s e _ hok).mono ?_
              rintro e2 w2 ⟨y1, y2, y3, bb, f, rfl, hst, hb2⟩
              have hBX2 := (hBX1.alloc _).below hb2 (by first | (simp; done) | (simp; omega))
              have hBP2 := (hBP1.alloc _).below hb2 (by first | (simp; done) | (simp; omega))
              have hBW2 := (hBW1.alloc _).below hb2 (by first | (simp; done) | (simp; omega))
              have hBY2 := (Blk.new w1 _ _).below hb2 (by simp)
              have hw2 := (hw1.alloc _).then_ hb2
              clear hb2 hBX1 hBP1 hBW1 x0 x1 x2
              have hXYl : w.heap.size + 1 < w1.heap.size := hXl
              have hWYl : bw < w1.heap.size := hWl
              generalize w1.heap.size = bY at *
              have xx0 := hBX2.cell 0
              have xx1 := hBX2.cell 1
              have xx2 := hBX2.cell 2
              simp only [List.getElem?_toArray, List.getElem?_cons_zero, List.getElem?_cons_succ] at xx0 xx1 xx2
              have xxf0 := hBX2.frozen 0
              have xxf1 := hBX2.frozen 1
              have xxf2 := hBX2.frozen 2
              have yy0 := hBY2.cell 0
              have yy1 := hBY2.cell 1
              have yy2 := hBY2.cell 2
              simp only [List.getElem?_toArray, List.getElem?_cons_zero, List.getElem?_cons_succ] at yy0 yy1 yy2
              have yyf0 := hBY2.frozen 0
              have yyf1 := hBY2.frozen 1
              have yyf2 := hBY2.frozen 2
              have hne1 : w.heap.size + 1 ≠ bY := (by omega)
              have hne2 : bY ≠ w.heap.size + 1 := (by omega)
              have hBX3 := (((hBX2.far (p := ⟨bY, 0, none⟩) (by first | omega | (simp; done) | (simp; omega)) (.int .i64 y1)).far (p := ⟨bY, 1, none⟩) (by first | omega | (simp; done) | (simp; omega)) (.int .i64 y2)).far (p := ⟨bY, 2, none⟩) (by first | omega | (simp; done) | (simp; omega)) (.int .i64 y3))
              have hBP3 := (((hBP2.far (p := ⟨bY, 0, none⟩) (by first | omega | (simp; done) | (simp; omega)) (.int .i64 y1)).far (p := ⟨bY, 1, none⟩) (by first | omega | (simp; done) | (simp; omega)) (.int .i64 y2)).far (p := ⟨bY, 2, none⟩) (by first | omega | (simp; done) | (simp; omega)) (.int .i64 y3))
              have hBW3 := (((hBW2.far (p := ⟨bY, 0, none⟩) (by first | omega | (simp; done) | (simp; omega)) (.int .i64 y1)).far (p := ⟨bY, 1, none⟩) (by first | omega | (simp; done) | (simp; omega)) (.int .i64 y2)).far (p := ⟨bY, 2, none⟩) (by first | omega | (simp; done) | (simp; omega)) (.int .i64 y3))
              have hw3 := (((hw2.setCell (p := ⟨bY, 0, none⟩) (by first | omega | (simp; done) | (simp; omega)) (.int .i64 y1)).setCell (p := ⟨bY, 1, none⟩) (by first | omega | (simp; done) | (simp; omega)) (.int .i64 y2)).setCell (p := ⟨bY, 2, none⟩) (by first | omega | (simp; done) | (simp; omega)) (.int .i64 y3))
              by_cases hf : f = 0
              · subst hf
                obtain ⟨hok2, d1, d2, d3, d4⟩ := hst rfl
                clear hst
                have hBX4 : Blk _ (w.heap.size + 1) 31 #[.int .i64 y1, .int .i64 y2, .int .i64 y3] := (((hBX3.set_ 0 (.int .i64 y1)).set_ 1 (.int .i64 y2)).set_ 2 (.int .i64 y3))
                have hBP4 := (((hBP3.far (p := ⟨w.heap.size + 1, 0, none⟩) (by first | omega | (simp; done) | (simp; omega)) (.int .i64 y1)).far (p := ⟨w.heap.size + 1, 1, none⟩) (by first | omega | (simp; done) | (simp; omega)) (.int .i64 y2)).far (p := ⟨w.heap.size + 1, 2, none⟩) (by first | omega | (simp; done) | (simp; omega)) (.int .i64 y3))
                have hBW4 := (((hBW3.far (p := ⟨w.heap.size + 1, 0, none⟩) (by first | omega | (simp; done) | (simp; omega)) (.int .i64 y1)).far (p := ⟨w.heap.size + 1, 1, none⟩) (by first | omega | (simp; done) | (simp; omega)) (.int .i64 y2)).far (p := ⟨w.heap.size + 1, 2, none⟩) (by first | omega | (simp; done) | (simp; omega)) (.int .i64 y3))
                have hw4 := (((hw3.setCell (p := ⟨w.heap.size + 1, 0, none⟩) (by simp) (.int .i64 y1)).setCell (p := ⟨w.heap.size + 1, 1, none⟩) (by simp) (.int .i64 y2)).setCell (p := ⟨w.heap.size + 1, 2, none⟩) (by simp) (.int .i64 y3))
                clear hBX2 hBP2 hBW2 hBY2 hBX3 hBP3 hBW3 hw3 hw2
                have HB4 := Lib.hid (And.intro hBX4 (And.intro hBP4 (And.intro hBW4 hw4)))
                clear hBX4 hBP4 hBW4 hw4
                go_wp2_with (first | (go_at_call 9; go_in))
                refine (lag_yes _ _ _ _ hok2).mono ?_
                rintro e5 w5 ⟨rfl, hb5⟩
                have hBX5 := HB4.out.1.below hb5 HB4.out.1.lt
                have hBP5 := HB4.out.2.1.below hb5 HB4.out.2.1.lt
                have hBW5 := HB4.out.2.2.1.below hb5 HB4.out.2.2.1.lt
                have hw5 := HB4.out.2.2.2.then_ hb5
                clear HB4 hb5 xx0 xx1 xx2 xxf0 xxf1 xxf2 yy0 yy1 yy2 yyf0 yyf1 yyf2
                have q0 := hBX5.cell 0
                have q1 := hBX5.cell 1
                have q2 := hBX5.cell 2
                simp only [List.getElem?_toArray, List.getElem?_cons_zero, List.getElem?_cons_succ] at q0 q1 q2
                have r0 := hBW5.cell 0
                have r1 := hBW5.cell 1
                have r2 := hBW5.cell 2
                simp only [List.getElem?_toArray, List.getElem?_cons_zero, List.getElem?_cons_succ] at r0 r1 r2
                have hk1 := ok_of hok
                have hk2 := ok_of hok2
                go_wp2_with (first | (go_at_call 10; refine (check_yes _ _ _ _ (by first | exact hok2 | (have hkx := ok_of hok2; exact okB_mk (by omega)))).mono ?_; rintro e9 w9 ⟨rfl, hb9⟩) | go_in)
                all_goals first
                  | (exfalso; omega)
                  | (go_roundw
                     case rel => exact ⟨k + 1, y1, y2, y3, by omega, by go_num, hok2, hw5.then_ hb9, hBP5.below hb9 hBP5.lt, hBX5.below hb9 hBX5.lt⟩
                     case measure => simp [intOf]; omega)
              · have hfn : (f == 0) = false := by simp; exact hf
                clear hst
                have HB4 := Lib.hid (And.intro hBX3 (And.intro hBP3 (And.intro hBW3 hw3)))
                clear hBX2 hBP2 hBW2 hBY2 hBX3 hBP3 hBW3 hw3 hw2
                go_wp2_with (first | (go_at_call 9; go_in))
                refine (lag_yes _ _ _ _ hok).mono ?_
                rintro e5 w5 ⟨rfl, hb5⟩
                have hBX5 := HB4.out.1.below hb5 HB4.out.1.lt
                have hBP5 := HB4.out.2.1.below hb5 HB4.out.2.1.lt
                have hBW5 := HB4.out.2.2.1.below hb5 HB4.out.2.2.1.lt
                have hw5 := HB4.out.2.2.2.then_ hb5
                clear HB4 hb5 xx0 xx1 xx2 xxf0 xxf1 xxf2 yy0 yy1 yy2 yyf0 yyf1 yyf2
                have q0 := hBX5.cell 0
                have q1 := hBX5.cell 1
                have q2 := hBX5.cell 2
                simp only [List.getElem?_toArray, List.getElem?_cons_zero, List.getElem?_cons_succ] at q0 q1 q2
                have r0 := hBW5.cell 0
                have r1 := hBW5.cell 1
                have r2 := hBW5.cell 2
                simp only [List.getElem?_toArray, List.getElem?_cons_zero, List.getElem?_cons_succ] at r0 r1 r2
                have hk1 := ok_of hok
                go_wp2_with (first | (go_at_call 10; refine (check_yes _ _ _ _ (by first | exact hok | (have hkx := ok_of hok; exact okB_mk (by omega)))).mono ?_; rintro e9 w9 ⟨rfl, hb9⟩) | go_in)
                all_goals first
                  | (exfalso; omega)
                  | (go_roundw
                     case rel => exact ⟨k + 1, n, s, e, by omega, by go_num, hok, hw5.then_ hb9, hBP5.below hb9 hBP5.lt, hBX5.below hb9 hBX5.lt⟩
                     case measure => simp [intOf]; omega)
            · have e0 : (act == 0) = false := by simp; exact h0
              have e1 : (act == 1) = false := by simp; exact h1
              have e2 : (act == 2) = false := by simp; exact h2
              clear h0 h1 h2
              have hadl : (ad.add (k * 2)).block < w.heap.size := by rw [block_of_add]; exact hadb
              simp only [add_one_] at g1
              have hS0 : ∀ V, Bel (w1.alloc (.cells #[.int .i64 n, .int .i64 s, .int .i64 e] 31)) V → (fun V : World => V.cell? ⟨w.heap.size + 1, 0, none⟩ = some (.int .i64 n) ∧ V.cell? ⟨w.heap.size + 1, 1, none⟩ = some (.int .i64 s) ∧ V.cell? ⟨w.heap.size + 1, 2, none⟩ = some (.int .i64 e) ∧ V.cell? ⟨(ad.add (k * 2)).block, (ad.add (k * 2)).off + 1, none⟩ = some (.int .i64 beat)) V := fun V hV => ⟨(hV.cell (p := ⟨w.heap.size + 1, 0, none⟩) (by simp; omega)).trans ((World.cell?_alloc_lt _ _ _ hXl).trans x0), (hV.cell (p := ⟨w.heap.size + 1, 1, none⟩) (by simp; omega)).trans ((World.cell?_alloc_lt _ _ _ hXl).trans x1), (hV.cell (p := ⟨w.heap.size + 1, 2, none⟩) (by simp; omega)).trans ((World.cell?_alloc_lt _ _ _ hXl).trans x2), (hV.cell (p := ⟨(ad.add (k * 2)).block, (ad.add (k * 2)).off + 1, none⟩) (by simp; omega)).trans (g1 _)⟩
              have hSet : ∀ (V : World) (z1 z2 z3 : Int), (fun V : World => V.cell? ⟨w.heap.size + 1, 0, none⟩ = some (.int .i64 n) ∧ V.cell? ⟨w.heap.size + 1, 1, none⟩ = some (.int .i64 s) ∧ V.cell? ⟨w.heap.size + 1, 2, none⟩ = some (.int .i64 e) ∧ V.cell? ⟨(ad.add (k * 2)).block, (ad.add (k * 2)).off + 1, none⟩ = some (.int .i64 beat)) V → (fun V : World => V.cell? ⟨w.heap.size + 1, 0, none⟩ = some (.int .i64 n) ∧ V.cell? ⟨w.heap.size + 1, 1, none⟩ = some (.int .i64 s) ∧ V.cell? ⟨w.heap.size + 1, 2, none⟩ = some (.int .i64 e) ∧ V.cell? ⟨(ad.add (k * 2)).block, (ad.add (k * 2)).off + 1, none⟩ = some (.int .i64 beat)) (((V.setCell ⟨w1.heap.size, 0, none⟩ (.int .i64 z1)).setCell ⟨w1.heap.size, 1, none⟩ (.int .i64 z2)).setCell ⟨w1.heap.size, 2, none⟩ (.int .i64 z3)) := by
                intro V z1 z2 z3 hV
                have hn : ∀ (p : Addr) (j : Nat) (v : Value) (V : World), p.block < w1.heap.size → (V.setCell ⟨w1.heap.size, j, none⟩ v).cell? p = V.cell? p := fun p j v V hp => World.cell?_setCell_other V _ p v (fun e => by subst e; simp at hp)
                refine ⟨?_, ?_, ?_, ?_⟩
                · rw [hn _ _ _ _ (by simp; omega), hn _ _ _ _ (by simp; omega), hn _ _ _ _ (by simp; omega)]; exact hV.1
                · rw [hn _ _ _ _ (by simp; omega), hn _ _ _ _ (by simp; omega), hn _ _ _ _ (by simp; omega)]; exact hV.2.1
                · rw [hn _ _ _ _ (by simp; omega), hn _ _ _ _ (by simp; omega), hn _ _ _ _ (by simp; omega)]; exact hV.2.2.1
                · have hq : (⟨(ad.add (k * 2)).block, (ad.add (k * 2)).off + 1, none⟩ : Addr).block < w1.heap.size := by show (ad.add (k * 2)).block < _; omega
                  rw [hn _ _ _ _ hq, hn _ _ _ _ hq, hn _ _ _ _ hq]; exact hV.2.2.2
              go_wp2_with fail
              refine wp_region_noPanic ?_
              refine wp_region_held_drew (S := (fun V : World => V.cell? ⟨w.heap.size + 1, 0, none⟩ = some (.int .i64 n) ∧ V.cell? ⟨w.heap.size + 1, 1, none⟩ = some (.int .i64 s) ∧ V.cell? ⟨w.heap.size + 1, 2, none⟩ = some (.int .i64 e) ∧ V.cell? ⟨(ad.add (k * 2)).block, (ad.add (k * 2)).off + 1, none⟩ = some (.int .i64 beat))) (by kernel_rfl) ?_ (fun hHr1_0 => ?_)
              · (try dsimp only); (first | assumption | exact hS0 _ (Bel.refl _) | exact hS0 _ (Bel.refl _).drew | exact hS3 | exact hS4)
              refine wpAnyH_take (i := 0) (oi := _) (v := ?vr1_1_0) rfl (by kernel_rfl) (by kernel_rfl) (by kernel_rfl) ?hqr1_1_0 (Or.inl ⟨by kernel_rfl, ?hyr1_1_0⟩) (by assumption) ?restr1_1_0
              case hqr1_1_0 => exact fun _ _ _ h => h
              case hyr1_1_0 => (intro w hSw; (try dsimp only at hSw); go_simp; try with_reducible rfl)
              try simp only [Act.put, List.getElem_toArray, List.getElem_cons_succ, List.getElem_cons_zero, List.setIfInBounds_toArray, List.set_cons_zero, List.set_cons_succ]
              refine wpAnyH_take (i := 1) (oi := _) (v := ?vr1_1_1) rfl (by kernel_rfl) (by kernel_rfl) (by kernel_rfl) ?hqr1_1_1 (Or.inl ⟨by kernel_rfl, ?hyr1_1_1⟩) (by assumption) ?restr1_1_1
              case hqr1_1_1 => exact fun _ _ _ h => h
              case hyr1_1_1 => (intro w hSw; (try dsimp only at hSw); go_simp; try with_reducible rfl)
              try simp only [Act.put, List.getElem_toArray, List.getElem_cons_succ, List.getElem_cons_zero, List.setIfInBounds_toArray, List.set_cons_zero, List.set_cons_succ]
              refine wpAnyH_take (i := 2) (oi := _) (v := ?vr1_1_2) rfl (by kernel_rfl) (by kernel_rfl) (by kernel_rfl) ?hqr1_1_2 (Or.inl ⟨by kernel_rfl, ?hyr1_1_2⟩) (by assumption) ?restr1_1_2
              case hqr1_1_2 => exact fun _ _ _ h => h
              case hyr1_1_2 => (intro w hSw; (try dsimp only at hSw); go_simp; try with_reducible rfl)
              try simp only [Act.put, List.getElem_toArray, List.getElem_cons_succ, List.getElem_cons_zero, List.setIfInBounds_toArray, List.set_cons_zero, List.set_cons_succ]
              refine wpAnyH_take (i := 3) (oi := _) (v := ?vr1_1_3) rfl (by kernel_rfl) (by kernel_rfl) (by kernel_rfl) ?hqr1_1_3 (Or.inl ⟨by kernel_rfl, ?hyr1_1_3⟩) (by assumption) ?restr1_1_3
              case hqr1_1_3 => exact fun _ _ _ h => h
              case hyr1_1_3 => (intro w hSw; (try dsimp only at hSw); go_simp; try with_reducible rfl)
              try simp only [Act.put, List.getElem_toArray, List.getElem_cons_succ, List.getElem_cons_zero, List.setIfInBounds_toArray, List.set_cons_zero, List.set_cons_succ]
              refine wpAnyH_take (i := 4) (oi := _) (v := ?vr1_1_4) rfl (by kernel_rfl) (by kernel_rfl) (by kernel_rfl) ?hqr1_1_4 (Or.inl ⟨by kernel_rfl, ?hyr1_1_4⟩) (by assumption) ?restr1_1_4
              case hqr1_1_4 => exact fun _ _ _ h => h
              case hyr1_1_4 => (intro w hSw; (try dsimp only at hSw); go_simp; try with_reducible rfl)
              try simp only [Act.put, List.getElem_toArray, List.getElem_cons_succ, List.getElem_cons_zero, List.setIfInBounds_toArray, List.set_cons_zero, List.set_cons_succ]
              refine wpAnyH_take (i := 5) (oi := _) (v := ?vr1_1_5) rfl (by kernel_rfl) (by kernel_rfl) (by kernel_rfl) ?hqr1_1_5 (Or.inl ⟨by kernel_rfl, ?hyr1_1_5⟩) (by assumption) ?restr1_1_5
              case hqr1_1_5 => exact fun _ _ _ h => h
              case hyr1_1_5 => (intro w hSw; (try dsimp only at hSw); go_simp; try with_reducible rfl)
              try simp only [Act.put, List.getElem_toArray, List.getElem_cons_succ, List.getElem_cons_zero, List.setIfInBounds_toArray, List.set_cons_zero, List.set_cons_succ]
              refine wpAnyH_ready (rs := [6]) (by kernel_rfl) (by simp) ?_
              refine AllReadyH.cons (o := _) rfl (fun K hK => ?_) AllReadyH.nil
              go_simp
              (go_at_call 8; refine (seeS n s e beat _ hok).mono ?_; rintro e2 w2 ⟨y1, y2, y3, f, rfl, hst, hb2q⟩; have hb2 : Bel (w1.alloc (.cells #[.int .i64 n, .int .i64 s, .int .i64 e] 31)) w2 := ((Bel.refl _).drew).then_ hb2q; clear hb2q; have hS2 := hS0 _ hb2; have hBX2 := (hBX1.alloc _).below hb2 (by first | (simp; done) | (simp; omega)); have hBP2 := (hBP1.alloc _).below hb2 (by first | (simp; done) | (simp; omega)); have hBW2 := (hBW1.alloc _).below hb2 (by first | (simp; done) | (simp; omega)); have hBY2 := (Blk.new w1 _ _).below hb2 (by simp); have hw2 := (hw1.alloc _).then_ hb2; clear hb2 hBX1 hBP1 hBW1 x0 x1 x2; have hXYl : w.heap.size + 1 < w1.heap.size := hXl; have hWYl : bw < w1.heap.size := hWl; generalize w1.heap.size = bY at *; have xx0 := hBX2.cell 0; have xx1 := hBX2.cell 1; have xx2 := hBX2.cell 2; simp only [List.getElem?_toArray, List.getElem?_cons_zero, List.getElem?_cons_succ] at xx0 xx1 xx2; have xxf0 := hBX2.frozen 0; have xxf1 := hBX2.frozen 1; have xxf2 := hBX2.frozen 2; have yy0 := hBY2.cell 0; have yy1 := hBY2.cell 1; have yy2 := hBY2.cell 2; simp only [List.getElem?_toArray, List.getElem?_cons_zero, List.getElem?_cons_succ] at yy0 yy1 yy2; have yyf0 := hBY2.frozen 0; have yyf1 := hBY2.frozen 1; have yyf2 := hBY2.frozen 2; have hne1 : w.heap.size + 1 ≠ bY := (by omega); have hne2 : bY ≠ w.heap.size + 1 := (by omega); have hBX3 := (((hBX2.far (p := ⟨bY, 0, none⟩) (by first | omega | (simp; done) | (simp; omega)) (.int .i64 y1)).far (p := ⟨bY, 1, none⟩) (by first | omega | (simp; done) | (simp; omega)) (.int .i64 y2)).far (p := ⟨bY, 2, none⟩) (by first | omega | (simp; done) | (simp; omega)) (.int .i64 y3)); have hBP3 := (((hBP2.far (p := ⟨bY, 0, none⟩) (by first | omega | (simp; done) | (simp; omega)) (.int .i64 y1)).far (p := ⟨bY, 1, none⟩) (by first | omega | (simp; done) | (simp; omega)) (.int .i64 y2)).far (p := ⟨bY, 2, none⟩) (by first | omega | (simp; done) | (simp; omega)) (.int .i64 y3)); have hBW3 := (((hBW2.far (p := ⟨bY, 0, none⟩) (by first | omega | (simp; done) | (simp; omega)) (.int .i64 y1)).far (p := ⟨bY, 1, none⟩) (by first | omega | (simp; done) | (simp; omega)) (.int .i64 y2)).far (p := ⟨bY, 2, none⟩) (by first | omega | (simp; done) | (simp; omega)) (.int .i64 y3)); have hw3 := (((hw2.setCell (p := ⟨bY, 0, none⟩) (by first | omega | (simp; done) | (simp; omega)) (.int .i64 y1)).setCell (p := ⟨bY, 1, none⟩) (by first | omega | (simp; done) | (simp; omega)) (.int .i64 y2)).setCell (p := ⟨bY, 2, none⟩) (by first | omega | (simp; done) | (simp; omega)) (.int .i64 y3)); have hS3 := hS2; have hS4 := hSet _ y1 y2 y3 hS2)
              try (go_wp2_with fail)
              refine hK.out _ _ ?_ (fun hHr1_1 => ?_)
              · (try dsimp only); (first | assumption | exact hS0 _ (Bel.refl _) | exact hS0 _ (Bel.refl _).drew | exact hS3 | exact hS4)
              clear hK K hHr1_0
              try simp only [Act.put, List.getElem_toArray, List.getElem_cons_succ, List.getElem_cons_zero, List.setIfInBounds_toArray, List.set_cons_zero, List.set_cons_succ]
              refine wpAnyH_take (i := 7) (oi := _) (v := ?vr1_1_7) rfl (by kernel_rfl) (by kernel_rfl) (by kernel_rfl) ?hqr1_1_7 (Or.inl ⟨by kernel_rfl, ?hyr1_1_7⟩) (by assumption) ?restr1_1_7
              case hqr1_1_7 => exact fun _ _ _ h => h
              case hyr1_1_7 => (intro w hSw; (try dsimp only at hSw); go_simp; try with_reducible rfl)
              try simp only [Act.put, List.getElem_toArray, List.getElem_cons_succ, List.getElem_cons_zero, List.setIfInBounds_toArray, List.set_cons_zero, List.set_cons_succ]
              refine wpAnyH_take (i := 8) (oi := _) (v := ?vr1_1_8) rfl (by kernel_rfl) (by kernel_rfl) (by kernel_rfl) ?hqr1_1_8 (Or.inl ⟨by kernel_rfl, ?hyr1_1_8⟩) (by assumption) ?restr1_1_8
              case hqr1_1_8 => exact fun _ _ _ h => h
              case hyr1_1_8 => (intro w hSw; (try dsimp only at hSw); go_simp; try with_reducible rfl)
              try simp only [Act.put, List.getElem_toArray, List.getElem_cons_succ, List.getElem_cons_zero, List.setIfInBounds_toArray, List.set_cons_zero, List.set_cons_succ]
              refine wpAnyH_take (i := 9) (oi := _) (v := ?vr1_1_9) rfl (by kernel_rfl) (by kernel_rfl) (by kernel_rfl) ?hqr1_1_9 (Or.inl ⟨by kernel_rfl, ?hyr1_1_9⟩) (by assumption) ?restr1_1_9
              case hqr1_1_9 => exact fun _ _ _ h => h
              case hyr1_1_9 => (intro w hSw; (try dsimp only at hSw); go_simp; try with_reducible rfl)
              try simp only [Act.put, List.getElem_toArray, List.getElem_cons_succ, List.getElem_cons_zero, List.setIfInBounds_toArray, List.set_cons_zero, List.set_cons_succ]
              refine wpAnyH_ready (rs := [10]) (by kernel_rfl) (by simp) ?_
              refine AllReadyH.cons (o := _) rfl (fun K hK => ?_) AllReadyH.nil
              go_simp
              refine hK.out _ _ ?_ (fun hHr1_2 => ?_)
              · (try dsimp only); (first | assumption | exact hS0 _ (Bel.refl _) | exact hS0 _ (Bel.refl _).drew | exact hS3 | exact hS4)
              clear hK K hHr1_1
              try simp only [Act.put, List.getElem_toArray, List.getElem_cons_succ, List.getElem_cons_zero, List.setIfInBounds_toArray, List.set_cons_zero, List.set_cons_succ]
              refine wpAnyH_take (i := 11) (oi := _) (v := ?vr1_1_11) rfl (by kernel_rfl) (by kernel_rfl) (by kernel_rfl) ?hqr1_1_11 (Or.inl ⟨by kernel_rfl, ?hyr1_1_11⟩) (by assumption) ?restr1_1_11
              case hqr1_1_11 => exact fun _ _ _ h => h
              case hyr1_1_11 => (intro w hSw; (try dsimp only at hSw); go_simp; try with_reducible rfl)
              try simp only [Act.put, List.getElem_toArray, List.getElem_cons_succ, List.getElem_cons_zero, List.setIfInBounds_toArray, List.set_cons_zero, List.set_cons_succ]
              refine wpAnyH_done (by kernel_rfl) ?_ _
              refine NoPanic.normal ?_
              by_cases hf : f = 0
              · subst hf
                obtain ⟨hok2, d1, d2, d3, d4⟩ := hst rfl
                clear hst
                have hBX4 : Blk _ (w.heap.size + 1) 31 #[.int .i64 y1, .int .i64 y2, .int .i64 y3] := (((hBX3.set_ 0 (.int .i64 y1)).set_ 1 (.int .i64 y2)).set_ 2 (.int .i64 y3))
                have hBP4 := (((hBP3.far (p := ⟨w.heap.size + 1, 0, none⟩) (by first | omega | (simp; done) | (simp; omega)) (.int .i64 y1)).far (p := ⟨w.heap.size + 1, 1, none⟩) (by first | omega | (simp; done) | (simp; omega)) (.int .i64 y2)).far (p := ⟨w.heap.size + 1, 2, none⟩) (by first | omega | (simp; done) | (simp; omega)) (.int .i64 y3))
                have hBW4 := (((hBW3.far (p := ⟨w.heap.size + 1, 0, none⟩) (by first | omega | (simp; done) | (simp; omega)) (.int .i64 y1)).far (p := ⟨w.heap.size + 1, 1, none⟩) (by first | omega | (simp; done) | (simp; omega)) (.int .i64 y2)).far (p := ⟨w.heap.size + 1, 2, none⟩) (by first | omega | (simp; done) | (simp; omega)) (.int .i64 y3))
                have hw4 := (((hw3.setCell (p := ⟨w.heap.size + 1, 0, none⟩) (by simp) (.int .i64 y1)).setCell (p := ⟨w.heap.size + 1, 1, none⟩) (by simp) (.int .i64 y2)).setCell (p := ⟨w.heap.size + 1, 2, none⟩) (by simp) (.int .i64 y3))
                clear hBX2 hBP2 hBW2 hBY2 hBX3 hBP3 hBW3 hw3 hw2
                have HB4 := Lib.hid (And.intro hBX4 (And.intro hBP4 (And.intro hBW4 hw4)))
                clear hBX4 hBP4 hBW4 hw4
                go_wp2_with (first | (go_at_call 9; go_in))
                refine (lag_yes _ _ _ _ hok2).mono ?_
                rintro e5 w5 ⟨rfl, hb5⟩
                have hBX5 := HB4.out.1.below hb5 HB4.out.1.lt
                have hBP5 := HB4.out.2.1.below hb5 HB4.out.2.1.lt
                have hBW5 := HB4.out.2.2.1.below hb5 HB4.out.2.2.1.lt
                have hw5 := HB4.out.2.2.2.then_ hb5
                clear HB4 hb5 xx0 xx1 xx2 xxf0 xxf1 xxf2 yy0 yy1 yy2 yyf0 yyf1 yyf2
                have q0 := hBX5.cell 0
                have q1 := hBX5.cell 1
                have q2 := hBX5.cell 2
                simp only [List.getElem?_toArray, List.getElem?_cons_zero, List.getElem?_cons_succ] at q0 q1 q2
                have r0 := hBW5.cell 0
                have r1 := hBW5.cell 1
                have r2 := hBW5.cell 2
                simp only [List.getElem?_toArray, List.getElem?_cons_zero, List.getElem?_cons_succ] at r0 r1 r2
                have hk1 := ok_of hok
                have hk2 := ok_of hok2
                go_wp2_with (first | (go_at_call 10; refine (check_yes _ _ _ _ (by first | exact hok2 | (have hkx := ok_of hok2; exact okB_mk (by omega)))).mono ?_; rintro e9 w9 ⟨rfl, hb9⟩) | go_in)
                all_goals first
                  | (exfalso; omega)
                  | (go_roundw
                     case rel => exact ⟨k + 1, y1, y2, y3, by omega, by go_num, hok2, hw5.then_ hb9, hBP5.below hb9 hBP5.lt, hBX5.below hb9 hBX5.lt⟩
                     case measure => simp [intOf]; omega)
              · have hfn : (f == 0) = false := by simp; exact hf
                clear hst
                have HB4 := Lib.hid (And.intro hBX3 (And.intro hBP3 (And.intro hBW3 hw3)))
                clear hBX2 hBP2 hBW2 hBY2 hBX3 hBP3 hBW3 hw3 hw2
                go_wp2_with (first | (go_at_call 9; go_in))
                refine (lag_yes _ _ _ _ hok).mono ?_
                rintro e5 w5 ⟨rfl, hb5⟩
                have hBX5 := HB4.out.1.below hb5 HB4.out.1.lt
                have hBP5 := HB4.out.2.1.below hb5 HB4.out.2.1.lt
                have hBW5 := HB4.out.2.2.1.below hb5 HB4.out.2.2.1.lt
                have hw5 := HB4.out.2.2.2.then_ hb5
                clear HB4 hb5 xx0 xx1 xx2 xxf0 xxf1 xxf2 yy0 yy1 yy2 yyf0 yyf1 yyf2
                have q0 := hBX5.cell 0
                have q1 := hBX5.cell 1
                have q2 := hBX5.cell 2
                simp only [List.getElem?_toArray, List.getElem?_cons_zero, List.getElem?_cons_succ] at q0 q1 q2
                have r0 := hBW5.cell 0
                have r1 := hBW5.cell 1
                have r2 := hBW5.cell 2
                simp only [List.getElem?_toArray, List.getElem?_cons_zero, List.getElem?_cons_succ] at r0 r1 r2
                have hk1 := ok_of hok
                go_wp2_with (first | (go_at_call 10; refine (check_yes _ _ _ _ (by first | exact hok | (have hkx := ok_of hok; exact okB_mk (by omega)))).mono ?_; rintro e9 w9 ⟨rfl, hb9⟩) | go_in)
                all_goals first
                  | (exfalso; omega)
                  | (go_roundw
                     case rel => exact ⟨k + 1, n, s, e, by omega, by go_num, hok, hw5.then_ hb9, hBP5.below hb9 hBP5.lt, hBX5.below hb9 hBX5.lt⟩
                     case measure => simp [intOf]; omega)
      · obtain rfl : k = l.length := by omega
        have q0 := hBP.cell 0
        have q1 := hBP.cell 1
        have q2 := hBP.cell 2
        have q3 := hBP.cell 3
        have q4 := hBP.cell 4
        have q5 := hBP.cell 5
        have q6 := hBP.cell 6
        simp only [List.getElem?_toArray, List.getElem?_cons_zero, List.getElem?_cons_succ] at q0 q1 q2 q3 q4 q5 q6
        have HC := Lib.hid (ctRows_any ⟨ph, cu, fu, sg, pt, bt⟩ ks A c wr (HR.out.belH hB) hk20)
        rw [HP.out] at HC
        clear x0 x1 x2 hBX hXl
        go_wp2_with fail
        refine HC.out.mono ?_
        rintro e2 w2 ⟨hc | hg, hb2⟩
        · obtain ⟨j, hj, rfl⟩ := hc
          have hjn : (j == 0) = false := by simp; exact hj
          have hjm : (j != 0) = true := by simp; exact hj
          have hw2 := hB.then_ hb2
          clear HC q0 q1 q2 q3 q4 q5 q6 hBP hb2
          go_wp2_with (first | (go_at_call 9; go_in) | (go_at_call 4; refine (works_any _).mono ?_; rintro e9 w9 ⟨rfl, hb9⟩))
          go_ret
          exact ⟨rfl, hw2.then_ hb9⟩
        · obtain ⟨us, A2, c2, rfl, hr2, h1, h25, hrows, hf⟩ := hg
          have hw2 := hB.then_ hb2
          have hBP2 := hBP.below hb2 hBP.lt
          have hbt : 0 ≤ bt ∧ bt ≤ 1099511627776 := ⟨hf.2.2.2.2.2.2.2.1, hf.2.2.2.2.2.2.2.2⟩
          have hu25 : (us.length : Int) ≤ 25 := by omega
          have hu1 : 1 ≤ (us.length : Int) := by omega
          have HRW := Lib.hid hrows
          have HR2 := Lib.hid hr2
          clear HC q0 q1 q2 q3 q4 q5 q6 hBP hb2 hf hrows hr2
          go_wp2_with (first | (go_at_call 9; go_in))
          go_loopw [16] (fun i wx => ∃ k : Nat, k ≤ us.length ∧ i = .int .i64 k ∧ Bel w2 wx) (fun i _ => us.length - (intOf i).toNat)
          case atStart => exact ⟨0, by omega, rfl, Bel.refl _⟩
          case round =>
            obtain ⟨k2, hk2, rfl, hBx⟩ := hrel
            by_cases hlt : k2 < us.length
            · obtain ⟨ad2, u, rfl, hadb2, hu, hcell⟩ := (HR2.out.belH hBx).at_ hlt
              obtain ⟨kk, ss, ⟨bu, rfl, hBu⟩, hz, hnz⟩ := HRW.out.bel hBx k2 u hu
              have hrow : RowIs wr (.slice (some ⟨bu, 0, none⟩) 2 2) kk ss := ⟨bu, rfl, hBu⟩
              clear hBu
              have b5 := (hBP2.below hBx hBP2.lt).cell 5
              simp only [List.getElem?_toArray, List.getElem?_cons_zero, List.getElem?_cons_succ] at b5
              by_cases hk0 : k2 = 0
              · obtain ⟨rfl, rfl⟩ := hz hk0
                have hki : ((k2 : Int) == 0) = true := by simp; exact hk0
                have HB := Lib.hid (pcRead_beat _ bt _ hrow hbt.1 hbt.2)
                unfold evV tLog at HB
                clear hz hnz hk0
                go_wp2_with fail
                refine HB.out.mono ?_
                rintro e3 w3 ⟨rfl, hb3⟩
                have c5 := ((hBP2.below hBx hBP2.lt).below hb3 ((hBP2.below hBx hBP2.lt).lt)).cell 5
                simp only [List.getElem?_toArray, List.getElem?_cons_zero, List.getElem?_cons_succ] at c5
                clear b5 HB hcell hrow
                go_wp2
                refine ⟨?_, ?measure⟩
                repeat apply Exists.intro
                refine ⟨?rel, rfl⟩
                case rel => exact ⟨k2 + 1, by omega, by go_num, hBx.then_ hb3⟩
                case measure => simp [intOf]; omega
              · have hki : ((k2 : Int) == 0) = false := by simp; exact hk0
                have HB := Lib.hid (pcRead_no _ kk ss _ hrow (hnz hk0))
                unfold evV tLog at HB
                clear hz hnz hk0
                go_wp2_with fail
                refine HB.out.mono ?_
                rintro e3 w3 ⟨rfl, hb3⟩
                clear b5 HB hcell hrow
                go_wp2
                refine ⟨?_, ?measure⟩
                repeat apply Exists.intro
                refine ⟨?rel, rfl⟩
                case rel => exact ⟨k2 + 1, by omega, by go_num, hBx.then_ hb3⟩
                case measure => simp [intOf]; omega
            · go_wp2_with (first | (go_at_call 4; refine (works_any _).mono ?_; rintro e9 w9 ⟨rfl, hb9⟩))
              go_ret
              exact ⟨rfl, (hw2.then_ hBx).then_ hb9⟩
  · by_cases h60 : (60 : Int) < l.length
    · clear hsmall
      go_enter Try.func3, Try.ntmps3
      go_wp2_with (first | (go_at_call 4; refine (works_any _).mono ?_; rintro e9 w9 ⟨rfl, hb9⟩))
      all_goals first
        | (exfalso; omega)
        | (go_ret
           exact ⟨rfl, ((Bel.refl w).alloc _).then_ hb9⟩)
    · have h61 : (l.length : Int) ≤ 60 := by omega
      have h20 : (20 : Int) < ks.length := by omega
      clear hsmall h60
      go_enter Try.func3, Try.ntmps3
      go_wp2_with (first | (go_at_call 4; refine (works_any _).mono ?_; rintro e9 w9 ⟨rfl, hb9⟩))
      all_goals first
        | (exfalso; omega)
        | (go_ret
           exact ⟨rfl, ((Bel.refl w).alloc _).then_ hb9⟩)
end Go.Proofs.Ytnajjhgbombboaa
