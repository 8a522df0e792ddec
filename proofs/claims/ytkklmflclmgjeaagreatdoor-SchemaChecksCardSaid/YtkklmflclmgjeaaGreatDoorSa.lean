/-
  Schema: names: which letters may stand in one.
-/
import Derived.Test.YtkklmflclmgjeaaGreatDoorAs
import Derived.Lib.OthersKept
import Derived.Lib.TrimU
import Derived.Deep.LoopGhost
import Derived.Laws.EntriesVeiled
import Derived.StillTailTactics
import Derived.Deep.RegionHeld3
set_option linter.unusedVariables false
set_option linter.unusedSimpArgs false
set_option linter.unusedVariables false
set_option linter.unusedSimpArgs false
namespace Go.Proofs.YtkklmflclmgjeaaGreatDoor
open Go.RowKit Go.Shelf Go.Lib
attribute [local go_sem] Oper.semAt_some

def letterB (first : Bool) (c : Int) : Bool := if c = 95 ∨ (48 ≤ c ∧ c ≤ 57) then !first else decide (97 ≤ c ∧ c ≤ 122)
theorem letterC_any (first : Bool) (c : Int) (b : Nat) (w : World) (h : w.cell? ⟨b, 0, none⟩ = some (.bool first)) :
    Calls Tryz.prog 177 #[.int .i32 c, .pointer (some ⟨b, 0, none⟩)] w fun e w' => e = .returned (.bool (letterB first c)) ∧ Bel w w' := by
  by_cases h1 : c = 95
  · subst h1
    cases first
    all_goals
      go_enter Tryz.func177, Tryz.ntmps177
      go_wp2
      go_ret
      exact ⟨rfl, by (repeat (first | exact Below.refl _ _ | assumption | exact Bel.refl _ | refine Bel.alloc ?_ _ | refine Bel.drew ?_ | refine Bel.drewN ?_ _ | refine Bel.then_ ?_ (by assumption) | refine Bel.setCell ?_ (by first | (simp; done) | (simp; omega)) _))⟩
  · have b1 : (c == 95) = false := by simp; exact h1
    by_cases h2 : 48 ≤ c
    · by_cases h3 : c ≤ 57
      · have e1 : letterB first c = !first := by unfold letterB; rw [if_pos (.inr ⟨h2, h3⟩)]
        rw [e1]
        cases first
        all_goals
          go_enter Tryz.func177, Tryz.ntmps177
          go_wp2
          go_ret
          exact ⟨rfl, by (repeat (first | exact Below.refl _ _ | assumption | exact Bel.refl _ | refine Bel.alloc ?_ _ | refine Bel.drew ?_ | refine Bel.drewN ?_ _ | refine Bel.then_ ?_ (by assumption) | refine Bel.setCell ?_ (by first | (simp; done) | (simp; omega)) _))⟩
      · have e1 : letterB first c = decide (97 ≤ c ∧ c ≤ 122) := by unfold letterB; rw [if_neg (by omega)]
        rw [e1]
        by_cases h4 : 97 ≤ c
        · by_cases h5 : c ≤ 122
          · rw [decide_eq_true ⟨h4, h5⟩]
            go_enter Tryz.func177, Tryz.ntmps177
            go_wp2
            go_ret
            exact ⟨rfl, by (repeat (first | exact Below.refl _ _ | assumption | exact Bel.refl _ | refine Bel.alloc ?_ _ | refine Bel.drew ?_ | refine Bel.drewN ?_ _ | refine Bel.then_ ?_ (by assumption) | refine Bel.setCell ?_ (by first | (simp; done) | (simp; omega)) _))⟩
          · rw [decide_eq_false (by omega)]
            go_enter Tryz.func177, Tryz.ntmps177
            go_wp2
            go_ret
            exact ⟨rfl, by (repeat (first | exact Below.refl _ _ | assumption | exact Bel.refl _ | refine Bel.alloc ?_ _ | refine Bel.drew ?_ | refine Bel.drewN ?_ _ | refine Bel.then_ ?_ (by assumption) | refine Bel.setCell ?_ (by first | (simp; done) | (simp; omega)) _))⟩
        · rw [decide_eq_false (by omega)]
          go_enter Tryz.func177, Tryz.ntmps177
          go_wp2
          go_ret
          exact ⟨rfl, by (repeat (first | exact Below.refl _ _ | assumption | exact Bel.refl _ | refine Bel.alloc ?_ _ | refine Bel.drew ?_ | refine Bel.drewN ?_ _ | refine Bel.then_ ?_ (by assumption) | refine Bel.setCell ?_ (by first | (simp; done) | (simp; omega)) _))⟩
    · have e1 : letterB first c = decide (97 ≤ c ∧ c ≤ 122) := by unfold letterB; rw [if_neg (by omega)]
      rw [e1, decide_eq_false (by omega)]
      have h4 : ¬ 97 ≤ c := by omega
      go_enter Tryz.func177, Tryz.ntmps177
      go_wp2
      go_ret
      exact ⟨rfl, by (repeat (first | exact Below.refl _ _ | assumption | exact Bel.refl _ | refine Bel.alloc ?_ _ | refine Bel.drew ?_ | refine Bel.drewN ?_ _ | refine Bel.then_ ?_ (by assumption) | refine Bel.setCell ?_ (by first | (simp; done) | (simp; omega)) _))⟩
theorem letter_any (first : Bool) (w : World) : Calls Tryz.prog 160 #[.bool first] w fun e w' => e = .returned (.func (.func 177) #[] #[.pointer (some ⟨w.heap.size, 0, none⟩)]) ∧ Bel w w' ∧ w'.cell? ⟨w.heap.size, 0, none⟩ = some (.bool first) := by
  go_enter Tryz.func160, Tryz.ntmps160
  go_wp2
  go_ret
  exact ⟨rfl, by (repeat (first | exact Below.refl _ _ | assumption | exact Bel.refl _ | refine Bel.alloc ?_ _ | refine Bel.drew ?_ | refine Bel.drewN ?_ _ | refine Bel.then_ ?_ (by assumption) | refine Bel.setCell ?_ (by first | (simp; done) | (simp; omega)) _)), by go_simp⟩
/-- What is asked of a function of a rune. -/
def RuneP (g : Nat) (lb : Array Value) (p : Int → Bool) (w : World) : Prop := ∀ W, Bel w W → ∀ c : Int, Calls Tryz.prog g (#[.int .i32 c] ++ lb) W fun e w' => e = .returned (.bool (p c)) ∧ Bel W w'
def idxR (p : Int → Bool) (s : ByteArray) : Nat → Nat → Int
  | 0, _ => -1
  | f + 1, pos => if pos < s.size then (if p (Utf8.decode s pos).1 = true then (pos : Int) else idxR p s f (pos + (Utf8.decode s pos).2)) else -1
theorem idxR_end (p : Int → Bool) (s : ByteArray) (f pos : Nat) (h : ¬ pos < s.size) : idxR p s f pos = -1 := by cases f <;> simp [idxR, h]
set_option maxHeartbeats 2000000 in
theorem indexFunc_any (g : Nat) (lb : Array Value) (eg : ∀ args w, (callFunc g args).run Tryz.prog w = .ok (.enter g args) w) (p : Int → Bool) (s : ByteArray) (w : World) (hp : RuneP g lb p w) :
    Calls Tryz.prog 184 #[.string s, .func (.func g) #[] lb, .bool true] w fun e w' => e = .returned (.int .i64 (idxR p s s.size 0)) ∧ Bel w w' := by
  have HP := Lib.hid hp
  clear hp
  go_enter Tryz.func184, Tryz.ntmps184
  go_wp2
  go_loopg [] s.size (fun gf wx => ∃ pos : Nat, wx.heap[w.heap.size]? = some (.stringIter s pos) ∧ Bel w wx ∧ idxR p s gf pos = idxR p s s.size 0 ∧ s.size ≤ pos + gf)
  case atStart => exact ⟨0, World.iter_heap w s 0, (Below.refl _ w).alloc (Nat.le_refl _) _, rfl, by omega⟩
  case round =>
    obtain ⟨pos, hit, hbw, hleft, hfu⟩ := hrel
    by_cases hps : pos < s.size
    · obtain ⟨g', rfl⟩ : ∃ g', gk = g' + 1 := ⟨gk - 1, by omega⟩
      have hnx : ∀ ty, (Instr.next (.pointer (some ⟨w.heap.size, 0, none⟩)) true ty).run Tryz.prog wr = _ := fun ty => Lib.run_next_any_at wr w.heap.size s pos ty hit hps
      have hwd := Lib.width_pos s pos
      obtain ⟨R, hR⟩ : ∃ R, (Utf8.decode s pos).1 = R := ⟨_, rfl⟩
      obtain ⟨K, hK⟩ : ∃ K, (Utf8.decode s pos).2 = K := ⟨_, rfl⟩
      simp only [idxR, hps, if_true, hR, hK] at hleft
      rw [hR, hK] at hnx
      rw [hK] at hwd
      have hit2 := Lib.iterAt_heap wr w.heap.size s pos (pos + K) hit
      have hbw2 : Bel w (wr.iterAt w.heap.size s (pos + K)) := Lib.below_iterAt hbw (k := w.heap.size) (Nat.le_refl _) s (pos + K)
      obtain ⟨W, hWd⟩ : ∃ W, wr.iterAt w.heap.size s (pos + K) = W := ⟨_, rfl⟩
      rw [hWd] at hnx hit2 hbw2
      have cS : Calls Tryz.prog g (#[.int .i32 (R : Int)] ++ lb) W _ := HP.out W hbw2 R
      have hsz : w.heap.size < W.heap.size := (Array.getElem?_eq_some_iff.1 hit2).1
      cases hsp : p R <;> rw [hsp] at cS <;> simp only [hsp, if_true, Bool.false_eq_true, if_false] at hleft
      · go_wp2_with (go_at_fn g; refine cS.mono ?_; rintro e W' ⟨rfl, hq⟩)
        go_roundg g'
        case measure => omega
        case rel => exact ⟨pos + K, (hq.block w.heap.size hsz).trans hit2, hbw2.then_ hq, hleft, by omega⟩
      · go_wp2_with (go_at_fn g; refine cS.mono ?_; rintro e W' ⟨rfl, hq⟩)
        go_ret
        exact ⟨by rw [← hleft] <;> rfl, hbw2.then_ hq⟩
    · have hnx : ∀ ty, (Instr.next (.pointer (some ⟨w.heap.size, 0, none⟩)) true ty).run Tryz.prog wr = _ := fun ty => Lib.run_next_end_at wr w.heap.size s pos ty hit hps
      rw [idxR_end p s gk pos hps] at hleft
      go_wp2
      go_ret
      exact ⟨by rw [← hleft] <;> rfl, hbw⟩
theorem ContainsFunc_any (g : Nat) (lb : Array Value) (eg : ∀ args w, (callFunc g args).run Tryz.prog w = .ok (.enter g args) w) (p : Int → Bool) (s : ByteArray) (w : World) (hp : RuneP g lb p w) :
    Calls Tryz.prog 161 #[.string s, .func (.func g) #[] lb] w fun e w' => e = .returned (.bool (decide (0 ≤ idxR p s s.size 0))) ∧ Bel w w' := by
  have HI := Lib.hid (indexFunc_any g lb eg p s w hp)
  clear hp eg
  go_enter Tryz.func161, Tryz.ntmps161
  go_wp2_with (first | (go_at_call 184; refine HI.out.mono ?_; rintro e w1 ⟨rfl, hb⟩) | (go_at_call 178; go_in))
  go_ret
  exact ⟨rfl, hb⟩
theorem namedC_any (c : Int) (bo b : Nat) (w : World) (ho : w.cell? ⟨bo, 0, none⟩ = some (.func (.func 177) #[] #[.pointer (some ⟨b, 0, none⟩)])) (hb : w.cell? ⟨b, 0, none⟩ = some (.bool false)) :
    Calls Tryz.prog 162 #[.int .i32 c, .pointer (some ⟨bo, 0, none⟩)] w fun e w' => e = .returned (.bool (!letterB false c)) ∧ Bel w w' := by
  have H := Lib.hid (letterC_any false c b w hb)
  have eg : ∀ args w, (callFunc 177 args).run Tryz.prog w = .ok (.enter 177 args) w := enters_of Tryz.func177 (by kernel_rfl) rfl
  clear hb
  go_enter Tryz.func162, Tryz.ntmps162
  go_wp2_with (go_at_fn 177; refine H.out.mono ?_; rintro e w1 ⟨rfl, hb⟩)
  go_ret
  exact ⟨rfl, hb⟩
def runesFine (s : ByteArray) : Bool := !decide (0 ≤ idxR (fun c => !letterB false c) s s.size 0)
def namedB (s : ByteArray) : Bool := if h : 1 ≤ s.size ∧ s.size ≤ 24 then letterB true (s[0]'(by omega)).toNat && runesFine s else false
set_option maxHeartbeats 2000000 in
theorem named_any (s : ByteArray) (w : World) : Calls Tryz.prog 139 #[.string s] w fun e w' => e = .returned (.bool (namedB s)) ∧ Bel w w' := by
  have eg : ∀ args w, (callFunc 177 args).run Tryz.prog w = .ok (.enter 177 args) w := enters_of Tryz.func177 (by kernel_rfl) rfl
  have eg2 : ∀ args w, (callFunc 162 args).run Tryz.prog w = .ok (.enter 162 args) w := enters_of Tryz.func162 (by kernel_rfl) rfl
  have HL := Lib.hid (letter_any false w)
  obtain ⟨R, hR⟩ : ∃ R, R = namedB s := ⟨_, rfl⟩
  rw [← hR]
  go_enter Tryz.func139, Tryz.ntmps139
  go_wp2_with (go_at_call 160; refine HL.out.mono ?_; rintro e w1 ⟨rfl, hb1, hc1⟩)
  obtain ⟨w2, hw2⟩ : ∃ w2, w2 = w1.alloc (.cells #[.func (.func 177) #[] #[.pointer (some ⟨w.heap.size, 0, none⟩)]] 233) := ⟨_, rfl⟩
  rw [← hw2]
  have hb2 : Bel w w2 := by rw [hw2]; exact hb1.then_ ((Bel.refl w1).alloc _)
  have hc2 : w2.cell? ⟨w1.heap.size, 0, none⟩ = some (.func (.func 177) #[] #[.pointer (some ⟨w.heap.size, 0, none⟩)]) := by rw [hw2]; go_simp
  have hd2 : w2.cell? ⟨w.heap.size, 0, none⟩ = some (.bool false) := by
    have h3 : Bel w1 w2 := by rw [hw2]; exact (Bel.refl w1).alloc _
    exact h3.c hc1
  have HB2 := Lib.hid hb2
  have HN := Lib.hid (fun V (hV : Bel w2 V) => ContainsFunc_any 162 #[.pointer (some ⟨w1.heap.size, 0, none⟩)] eg2 (fun c => !letterB false c) s V (fun W hW c => namedC_any c w1.heap.size w.heap.size W ((hV.then_ hW).c hc2) ((hV.then_ hW).c hd2)))
  clear hb1 hc1 hw2 hb2 hc2 hd2 HL
  by_cases h1 : 1 ≤ s.size
  · have h1I : (1 : Int) ≤ s.size := by omega
    by_cases h2 : s.size ≤ 24
    · have h2I : (s.size : Int) ≤ 24 := by omega
      obtain ⟨c0, hc0⟩ : ∃ c0, c0 = letterB true (s[0]'(by omega)).toNat := ⟨_, rfl⟩
      have hnb : namedB s = (c0 && runesFine s) := by unfold namedB; rw [dif_pos ⟨h1, h2⟩, hc0]
      rw [hnb] at hR
      clear hnb
      have h00 : 0 < s.size := by omega
      have hwr : IntKind.i32.wrap ((s[0]'(by omega)).toNat : Int) = (s[0]'(by omega)).toNat := by
        have := UInt8.toNat_lt (s[0]'(by omega))
        simp [IntKind.wrap, IntKind.bits, IntKind.signed]
        omega
      cases c0
      · have hlt : letterB true ((s[0]'(by omega)).toNat : Int) = false := hc0.symm
        have HLX := Lib.hid (fun (V : World) b (h : V.cell? ⟨b, 0, none⟩ = some (.bool true)) => letterC_any true ((s[0]'(by omega)).toNat : Int) b V h)
        rw [hlt] at HLX
        clear hc0 hlt
        simp only [Bool.false_and] at hR
        refine wp_region_noPanic ?_
        refine wp_region_held_drew (S := (fun V : World => Bel w2 V)) (by kernel_rfl) ?_ (fun hHr1_0 => ?_)
        · (try dsimp only); (first | assumption | exact (Bel.refl w2).drew | exact Bel.then_ (by assumption) (by assumption))
        refine wpAnyH_take (i := 0) (oi := _) (v := ?vr1_1_0) rfl (by kernel_rfl) (by kernel_rfl) (by kernel_rfl) ?hqr1_1_0 (Or.inl ⟨by kernel_rfl, ?hyr1_1_0⟩) (by assumption) ?restr1_1_0
        case hqr1_1_0 => exact fun _ _ _ h => h
        case hyr1_1_0 => (intro w hSw; (try dsimp only at hSw); go_simp; try with_reducible rfl)
        try simp only [Act.put, List.getElem_toArray, List.getElem_cons_succ, List.getElem_cons_zero, List.setIfInBounds_toArray, List.set_cons_zero, List.set_cons_succ]
        refine wpAnyH_take (i := 1) (oi := _) (v := ?vr1_1_1) rfl (by kernel_rfl) (by kernel_rfl) (by kernel_rfl) ?hqr1_1_1 (Or.inl ⟨by kernel_rfl, ?hyr1_1_1⟩) (by assumption) ?restr1_1_1
        case hqr1_1_1 => exact fun _ _ _ h => h
        case hyr1_1_1 => (intro w hSw; (try dsimp only at hSw); go_simp; try with_reducible rfl)
        try simp only [Act.put, List.getElem_toArray, List.getElem_cons_succ, List.getElem_cons_zero, List.setIfInBounds_toArray, List.set_cons_zero, List.set_cons_succ]
        refine wpAnyH_take (i := 2) (oi := _) (v := ?vr1_1_2) rfl (by kernel_rfl) (by kernel_rfl) (by kernel_rfl) ?hqr1_1_2 (Or.inl ⟨by kernel_rfl, ?hyr1_1_2⟩) (by assumption) ?restr1_1_2
        case hqr1_1_2 => exact fun _ _ _ h => h
        case hyr1_1_2 => (intro w hSw; (try dsimp only at hSw); go_simp; try with_reducible rfl)
        try simp only [Act.put, List.getElem_toArray, List.getElem_cons_succ, List.getElem_cons_zero, List.setIfInBounds_toArray, List.set_cons_zero, List.set_cons_succ]
        refine wpAnyH_take (i := 3) (oi := _) (v := ?vr1_1_3) rfl (by kernel_rfl) (by kernel_rfl) (by kernel_rfl) ?hqr1_1_3 (Or.inl ⟨by kernel_rfl, ?hyr1_1_3⟩) (by assumption) ?restr1_1_3
        case hqr1_1_3 => exact fun _ _ _ h => h
        case hyr1_1_3 => (intro w hSw; (try dsimp only at hSw); go_simp; try with_reducible rfl)
        try simp only [Act.put, List.getElem_toArray, List.getElem_cons_succ, List.getElem_cons_zero, List.setIfInBounds_toArray, List.set_cons_zero, List.set_cons_succ]
        refine wpAnyH_take (i := 4) (oi := _) (v := ?vr1_1_4) rfl (by kernel_rfl) (by kernel_rfl) (by kernel_rfl) ?hqr1_1_4 (Or.inl ⟨by kernel_rfl, ?hyr1_1_4⟩) (by assumption) ?restr1_1_4
        case hqr1_1_4 => exact fun _ _ _ h => h
        case hyr1_1_4 => (intro w hSw; (try dsimp only at hSw); go_simp; try with_reducible rfl)
        try simp only [Act.put, List.getElem_toArray, List.getElem_cons_succ, List.getElem_cons_zero, List.setIfInBounds_toArray, List.set_cons_zero, List.set_cons_succ]
        refine wpAnyH_take (i := 5) (oi := _) (v := ?vr1_1_5) rfl (by kernel_rfl) (by kernel_rfl) (by kernel_rfl) ?hqr1_1_5 (Or.inl ⟨by kernel_rfl, ?hyr1_1_5⟩) (by assumption) ?restr1_1_5
        case hqr1_1_5 => exact fun _ _ _ h => h
        case hyr1_1_5 => (intro w hSw; (try dsimp only at hSw); go_simp; try with_reducible rfl)
        try simp only [Act.put, List.getElem_toArray, List.getElem_cons_succ, List.getElem_cons_zero, List.setIfInBounds_toArray, List.set_cons_zero, List.set_cons_succ]
        refine wpAnyH_take (i := 6) (oi := _) (v := ?vr1_1_6) rfl (by kernel_rfl) (by kernel_rfl) (by kernel_rfl) ?hqr1_1_6 (Or.inl ⟨by kernel_rfl, ?hyr1_1_6⟩) (by assumption) ?restr1_1_6
        case hqr1_1_6 => exact fun _ _ _ h => h
        case hyr1_1_6 => (intro w hSw; (try dsimp only at hSw); go_simp; try with_reducible rfl)
        try simp only [Act.put, List.getElem_toArray, List.getElem_cons_succ, List.getElem_cons_zero, List.setIfInBounds_toArray, List.set_cons_zero, List.set_cons_succ]
        refine wpAnyH_take (i := 7) (oi := _) (v := ?vr1_1_7) rfl (by kernel_rfl) (by kernel_rfl) (by kernel_rfl) ?hqr1_1_7 (Or.inl ⟨by kernel_rfl, ?hyr1_1_7⟩) (by assumption) ?restr1_1_7
        case hqr1_1_7 => exact fun _ _ _ h => h
        case hyr1_1_7 => (intro w hSw; (try dsimp only at hSw); go_simp; try with_reducible rfl)
        try simp only [Act.put, List.getElem_toArray, List.getElem_cons_succ, List.getElem_cons_zero, List.setIfInBounds_toArray, List.set_cons_zero, List.set_cons_succ]
        refine wpAnyH_take (i := 8) (oi := _) (v := ?vr1_1_8) rfl (by kernel_rfl) (by kernel_rfl) (by kernel_rfl) ?hqr1_1_8 (Or.inl ⟨by kernel_rfl, ?hyr1_1_8⟩) (by assumption) ?restr1_1_8
        case hqr1_1_8 => exact fun _ _ _ h => h
        case hyr1_1_8 => (intro w hSw; (try dsimp only at hSw); go_simp; try with_reducible rfl)
        try simp only [Act.put, List.getElem_toArray, List.getElem_cons_succ, List.getElem_cons_zero, List.setIfInBounds_toArray, List.set_cons_zero, List.set_cons_succ]
        refine wpAnyH_take (i := 10) (oi := _) (v := ?vr1_1_10) rfl (by kernel_rfl) (by kernel_rfl) (by kernel_rfl) ?hqr1_1_10 (Or.inl ⟨by kernel_rfl, ?hyr1_1_10⟩) (by assumption) ?restr1_1_10
        case hqr1_1_10 => exact fun _ _ _ h => h
        case hyr1_1_10 => (intro w hSw; (try dsimp only at hSw); go_simp; try with_reducible rfl)
        try simp only [Act.put, List.getElem_toArray, List.getElem_cons_succ, List.getElem_cons_zero, List.setIfInBounds_toArray, List.set_cons_zero, List.set_cons_succ]
        refine wpAnyH_take (i := 11) (oi := _) (v := ?vr1_1_11) rfl (by kernel_rfl) (by kernel_rfl) (by kernel_rfl) ?hqr1_1_11 (Or.inl ⟨by kernel_rfl, ?hyr1_1_11⟩) (by assumption) ?restr1_1_11
        case hqr1_1_11 => exact fun _ _ _ h => h
        case hyr1_1_11 => (intro w hSw; (try dsimp only at hSw); go_simp; try with_reducible rfl)
        try simp only [Act.put, List.getElem_toArray, List.getElem_cons_succ, List.getElem_cons_zero, List.setIfInBounds_toArray, List.set_cons_zero, List.set_cons_succ]
        refine wpAnyH_take (i := 12) (oi := _) (v := ?vr1_1_12) rfl (by kernel_rfl) (by kernel_rfl) (by kernel_rfl) ?hqr1_1_12 (Or.inl ⟨by kernel_rfl, ?hyr1_1_12⟩) (by assumption) ?restr1_1_12
        case hqr1_1_12 => exact fun _ _ _ h => h
        case hyr1_1_12 => (intro w hSw; (try dsimp only at hSw); go_simp; try with_reducible rfl)
        try simp only [Act.put, List.getElem_toArray, List.getElem_cons_succ, List.getElem_cons_zero, List.setIfInBounds_toArray, List.set_cons_zero, List.set_cons_succ]
        refine wpAnyH_ready (rs := [9]) (by kernel_rfl) (by simp) ?_
        refine AllReadyH.cons (o := _) rfl (fun K hK => ?_) AllReadyH.nil
        go_simp
        (go_at_call 160; refine (letter_any true _).mono ?_; rintro e w3 ⟨rfl, hb3, hc3⟩)
        try (go_wp2_with fail)
        refine hK.out _ _ ?_ (fun hHr1_1 => ?_)
        · (try dsimp only); (first | assumption | exact (Bel.refl w2).drew | exact Bel.then_ (by assumption) (by assumption))
        clear hK K hHr1_0
        try simp only [Act.put, List.getElem_toArray, List.getElem_cons_succ, List.getElem_cons_zero, List.setIfInBounds_toArray, List.set_cons_zero, List.set_cons_succ]
        refine wpAnyH_ready (rs := [13]) (by kernel_rfl) (by simp) ?_
        refine AllReadyH.cons (o := _) rfl (fun K hK => ?_) AllReadyH.nil
        go_simp
        (go_at_fn 177; refine (HLX.out _ _ hc3).mono ?_; rintro e w4 ⟨rfl, hb4⟩)
        try (go_wp2_with fail)
        refine hK.out _ _ ?_ (fun hHr1_2 => ?_)
        · (try dsimp only); (first | assumption | exact (Bel.refl w2).drew | exact Bel.then_ (by assumption) (by assumption))
        clear hK K hHr1_1
        try simp only [Act.put, List.getElem_toArray, List.getElem_cons_succ, List.getElem_cons_zero, List.setIfInBounds_toArray, List.set_cons_zero, List.set_cons_succ]
        refine wpAnyH_take (i := 14) (oi := _) (v := ?vr1_1_14) rfl (by kernel_rfl) (by kernel_rfl) (by kernel_rfl) ?hqr1_1_14 (Or.inl ⟨by kernel_rfl, ?hyr1_1_14⟩) (by assumption) ?restr1_1_14
        case hqr1_1_14 => exact fun _ _ _ h => h
        case hyr1_1_14 => (intro w hSw; (try dsimp only at hSw); go_simp; try with_reducible rfl)
        try simp only [Act.put, List.getElem_toArray, List.getElem_cons_succ, List.getElem_cons_zero, List.setIfInBounds_toArray, List.set_cons_zero, List.set_cons_succ]
        refine wpAnyH_take (i := 15) (oi := _) (v := ?vr1_1_15) rfl (by kernel_rfl) (by kernel_rfl) (by kernel_rfl) ?hqr1_1_15 (Or.inl ⟨by kernel_rfl, ?hyr1_1_15⟩) (by assumption) ?restr1_1_15
        case hqr1_1_15 => exact fun _ _ _ h => h
        case hyr1_1_15 => (intro w hSw; (try dsimp only at hSw); go_simp; try with_reducible rfl)
        try simp only [Act.put, List.getElem_toArray, List.getElem_cons_succ, List.getElem_cons_zero, List.setIfInBounds_toArray, List.set_cons_zero, List.set_cons_succ]
        refine wpAnyH_take (i := 16) (oi := _) (v := undef) rfl (by kernel_rfl) (by kernel_rfl) (by kernel_rfl) (fun _ _ _ h => h) (Or.inr ⟨by kernel_rfl, rfl⟩) (by assumption) ?restr1_1_16
        try simp only [Act.put, List.getElem_toArray, List.getElem_cons_succ, List.getElem_cons_zero, List.setIfInBounds_toArray, List.set_cons_zero, List.set_cons_succ]
        refine wpAnyH_take (i := 17) (oi := _) (v := undef) rfl (by kernel_rfl) (by kernel_rfl) (by kernel_rfl) (fun _ _ _ h => h) (Or.inr ⟨by kernel_rfl, rfl⟩) (by assumption) ?restr1_1_17
        try simp only [Act.put, List.getElem_toArray, List.getElem_cons_succ, List.getElem_cons_zero, List.setIfInBounds_toArray, List.set_cons_zero, List.set_cons_succ]
        refine wpAnyH_take (i := 18) (oi := _) (v := undef) rfl (by kernel_rfl) (by kernel_rfl) (by kernel_rfl) (fun _ _ _ h => h) (Or.inr ⟨by kernel_rfl, rfl⟩) (by assumption) ?restr1_1_18
        try simp only [Act.put, List.getElem_toArray, List.getElem_cons_succ, List.getElem_cons_zero, List.setIfInBounds_toArray, List.set_cons_zero, List.set_cons_succ]
        refine wpAnyH_take (i := 19) (oi := _) (v := undef) rfl (by kernel_rfl) (by kernel_rfl) (by kernel_rfl) (fun _ _ _ h => h) (Or.inr ⟨by kernel_rfl, rfl⟩) (by assumption) ?restr1_1_19
        try simp only [Act.put, List.getElem_toArray, List.getElem_cons_succ, List.getElem_cons_zero, List.setIfInBounds_toArray, List.set_cons_zero, List.set_cons_succ]
        refine wpAnyH_take (i := 20) (oi := _) (v := ?vr1_1_20) rfl (by kernel_rfl) (by kernel_rfl) (by kernel_rfl) ?hqr1_1_20 (Or.inl ⟨by kernel_rfl, ?hyr1_1_20⟩) (by assumption) ?restr1_1_20
        case hqr1_1_20 => exact fun _ _ _ h => h
        case hyr1_1_20 => (intro w hSw; (try dsimp only at hSw); go_simp; try with_reducible rfl)
        try simp only [Act.put, List.getElem_toArray, List.getElem_cons_succ, List.getElem_cons_zero, List.setIfInBounds_toArray, List.set_cons_zero, List.set_cons_succ]
        refine wpAnyH_take (i := 21) (oi := _) (v := ?vr1_1_21) rfl (by kernel_rfl) (by kernel_rfl) (by kernel_rfl) ?hqr1_1_21 (Or.inl ⟨by kernel_rfl, ?hyr1_1_21⟩) (by assumption) ?restr1_1_21
        case hqr1_1_21 => exact fun _ _ _ h => h
        case hyr1_1_21 => (intro w hSw; (try dsimp only at hSw); go_simp; try with_reducible rfl)
        try simp only [Act.put, List.getElem_toArray, List.getElem_cons_succ, List.getElem_cons_zero, List.setIfInBounds_toArray, List.set_cons_zero, List.set_cons_succ]
        refine wpAnyH_done (by kernel_rfl) ?_ _
        refine NoPanic.normal ?_
        go_wp2
        go_ret
        exact ⟨by rw [hR]; rfl, HB2.out.then_ hHr1_2⟩
      · have hlt : letterB true ((s[0]'(by omega)).toNat : Int) = true := hc0.symm
        have HLX := Lib.hid (fun (V : World) b (h : V.cell? ⟨b, 0, none⟩ = some (.bool true)) => letterC_any true ((s[0]'(by omega)).toNat : Int) b V h)
        rw [hlt] at HLX
        clear hc0 hlt
        simp only [Bool.true_and] at hR
        obtain ⟨D, hD⟩ : ∃ D, D = decide (0 ≤ idxR (fun c => !letterB false c) s s.size 0) := ⟨_, rfl⟩
        rw [← hD] at HN
        have hRD : R = !D := by rw [hR, hD]; rfl
        clear hD hR
        refine wp_region_noPanic ?_
        refine wp_region_held_drew (S := (fun V : World => Bel w2 V)) (by kernel_rfl) ?_ (fun hHr2_0 => ?_)
        · (try dsimp only); (first | assumption | exact (Bel.refl w2).drew | exact Bel.then_ (by assumption) (by assumption))
        refine wpAnyH_take (i := 0) (oi := _) (v := ?vr2_1_0) rfl (by kernel_rfl) (by kernel_rfl) (by kernel_rfl) ?hqr2_1_0 (Or.inl ⟨by kernel_rfl, ?hyr2_1_0⟩) (by assumption) ?restr2_1_0
        case hqr2_1_0 => exact fun _ _ _ h => h
        case hyr2_1_0 => (intro w hSw; (try dsimp only at hSw); go_simp; try with_reducible rfl)
        try simp only [Act.put, List.getElem_toArray, List.getElem_cons_succ, List.getElem_cons_zero, List.setIfInBounds_toArray, List.set_cons_zero, List.set_cons_succ]
        refine wpAnyH_take (i := 1) (oi := _) (v := ?vr2_1_1) rfl (by kernel_rfl) (by kernel_rfl) (by kernel_rfl) ?hqr2_1_1 (Or.inl ⟨by kernel_rfl, ?hyr2_1_1⟩) (by assumption) ?restr2_1_1
        case hqr2_1_1 => exact fun _ _ _ h => h
        case hyr2_1_1 => (intro w hSw; (try dsimp only at hSw); go_simp; try with_reducible rfl)
        try simp only [Act.put, List.getElem_toArray, List.getElem_cons_succ, List.getElem_cons_zero, List.setIfInBounds_toArray, List.set_cons_zero, List.set_cons_succ]
        refine wpAnyH_take (i := 2) (oi := _) (v := ?vr2_1_2) rfl (by kernel_rfl) (by kernel_rfl) (by kernel_rfl) ?hqr2_1_2 (Or.inl ⟨by kernel_rfl, ?hyr2_1_2⟩) (by assumption) ?restr2_1_2
        case hqr2_1_2 => exact fun _ _ _ h => h
        case hyr2_1_2 => (intro w hSw; (try dsimp only at hSw); go_simp; try with_reducible rfl)
        try simp only [Act.put, List.getElem_toArray, List.getElem_cons_succ, List.getElem_cons_zero, List.setIfInBounds_toArray, List.set_cons_zero, List.set_cons_succ]
        refine wpAnyH_take (i := 3) (oi := _) (v := ?vr2_1_3) rfl (by kernel_rfl) (by kernel_rfl) (by kernel_rfl) ?hqr2_1_3 (Or.inl ⟨by kernel_rfl, ?hyr2_1_3⟩) (by assumption) ?restr2_1_3
        case hqr2_1_3 => exact fun _ _ _ h => h
        case hyr2_1_3 => (intro w hSw; (try dsimp only at hSw); go_simp; try with_reducible rfl)
        try simp only [Act.put, List.getElem_toArray, List.getElem_cons_succ, List.getElem_cons_zero, List.setIfInBounds_toArray, List.set_cons_zero, List.set_cons_succ]
        refine wpAnyH_take (i := 4) (oi := _) (v := ?vr2_1_4) rfl (by kernel_rfl) (by kernel_rfl) (by kernel_rfl) ?hqr2_1_4 (Or.inl ⟨by kernel_rfl, ?hyr2_1_4⟩) (by assumption) ?restr2_1_4
        case hqr2_1_4 => exact fun _ _ _ h => h
        case hyr2_1_4 => (intro w hSw; (try dsimp only at hSw); go_simp; try with_reducible rfl)
        try simp only [Act.put, List.getElem_toArray, List.getElem_cons_succ, List.getElem_cons_zero, List.setIfInBounds_toArray, List.set_cons_zero, List.set_cons_succ]
        refine wpAnyH_take (i := 5) (oi := _) (v := ?vr2_1_5) rfl (by kernel_rfl) (by kernel_rfl) (by kernel_rfl) ?hqr2_1_5 (Or.inl ⟨by kernel_rfl, ?hyr2_1_5⟩) (by assumption) ?restr2_1_5
        case hqr2_1_5 => exact fun _ _ _ h => h
        case hyr2_1_5 => (intro w hSw; (try dsimp only at hSw); go_simp; try with_reducible rfl)
        try simp only [Act.put, List.getElem_toArray, List.getElem_cons_succ, List.getElem_cons_zero, List.setIfInBounds_toArray, List.set_cons_zero, List.set_cons_succ]
        refine wpAnyH_take (i := 6) (oi := _) (v := ?vr2_1_6) rfl (by kernel_rfl) (by kernel_rfl) (by kernel_rfl) ?hqr2_1_6 (Or.inl ⟨by kernel_rfl, ?hyr2_1_6⟩) (by assumption) ?restr2_1_6
        case hqr2_1_6 => exact fun _ _ _ h => h
        case hyr2_1_6 => (intro w hSw; (try dsimp only at hSw); go_simp; try with_reducible rfl)
        try simp only [Act.put, List.getElem_toArray, List.getElem_cons_succ, List.getElem_cons_zero, List.setIfInBounds_toArray, List.set_cons_zero, List.set_cons_succ]
        refine wpAnyH_take (i := 7) (oi := _) (v := ?vr2_1_7) rfl (by kernel_rfl) (by kernel_rfl) (by kernel_rfl) ?hqr2_1_7 (Or.inl ⟨by kernel_rfl, ?hyr2_1_7⟩) (by assumption) ?restr2_1_7
        case hqr2_1_7 => exact fun _ _ _ h => h
        case hyr2_1_7 => (intro w hSw; (try dsimp only at hSw); go_simp; try with_reducible rfl)
        try simp only [Act.put, List.getElem_toArray, List.getElem_cons_succ, List.getElem_cons_zero, List.setIfInBounds_toArray, List.set_cons_zero, List.set_cons_succ]
        refine wpAnyH_take (i := 8) (oi := _) (v := ?vr2_1_8) rfl (by kernel_rfl) (by kernel_rfl) (by kernel_rfl) ?hqr2_1_8 (Or.inl ⟨by kernel_rfl, ?hyr2_1_8⟩) (by assumption) ?restr2_1_8
        case hqr2_1_8 => exact fun _ _ _ h => h
        case hyr2_1_8 => (intro w hSw; (try dsimp only at hSw); go_simp; try with_reducible rfl)
        try simp only [Act.put, List.getElem_toArray, List.getElem_cons_succ, List.getElem_cons_zero, List.setIfInBounds_toArray, List.set_cons_zero, List.set_cons_succ]
        refine wpAnyH_take (i := 10) (oi := _) (v := ?vr2_1_10) rfl (by kernel_rfl) (by kernel_rfl) (by kernel_rfl) ?hqr2_1_10 (Or.inl ⟨by kernel_rfl, ?hyr2_1_10⟩) (by assumption) ?restr2_1_10
        case hqr2_1_10 => exact fun _ _ _ h => h
        case hyr2_1_10 => (intro w hSw; (try dsimp only at hSw); go_simp; try with_reducible rfl)
        try simp only [Act.put, List.getElem_toArray, List.getElem_cons_succ, List.getElem_cons_zero, List.setIfInBounds_toArray, List.set_cons_zero, List.set_cons_succ]
        refine wpAnyH_take (i := 11) (oi := _) (v := ?vr2_1_11) rfl (by kernel_rfl) (by kernel_rfl) (by kernel_rfl) ?hqr2_1_11 (Or.inl ⟨by kernel_rfl, ?hyr2_1_11⟩) (by assumption) ?restr2_1_11
        case hqr2_1_11 => exact fun _ _ _ h => h
        case hyr2_1_11 => (intro w hSw; (try dsimp only at hSw); go_simp; try with_reducible rfl)
        try simp only [Act.put, List.getElem_toArray, List.getElem_cons_succ, List.getElem_cons_zero, List.setIfInBounds_toArray, List.set_cons_zero, List.set_cons_succ]
        refine wpAnyH_take (i := 12) (oi := _) (v := ?vr2_1_12) rfl (by kernel_rfl) (by kernel_rfl) (by kernel_rfl) ?hqr2_1_12 (Or.inl ⟨by kernel_rfl, ?hyr2_1_12⟩) (by assumption) ?restr2_1_12
        case hqr2_1_12 => exact fun _ _ _ h => h
        case hyr2_1_12 => (intro w hSw; (try dsimp only at hSw); go_simp; try with_reducible rfl)
        try simp only [Act.put, List.getElem_toArray, List.getElem_cons_succ, List.getElem_cons_zero, List.setIfInBounds_toArray, List.set_cons_zero, List.set_cons_succ]
        refine wpAnyH_ready (rs := [9]) (by kernel_rfl) (by simp) ?_
        refine AllReadyH.cons (o := _) rfl (fun K hK => ?_) AllReadyH.nil
        go_simp
        (go_at_call 160; refine (letter_any true _).mono ?_; rintro e w3 ⟨rfl, hb3, hc3⟩)
        try (go_wp2_with fail)
        refine hK.out _ _ ?_ (fun hHr2_1 => ?_)
        · (try dsimp only); (first | assumption | exact (Bel.refl w2).drew | exact Bel.then_ (by assumption) (by assumption))
        clear hK K hHr2_0
        try simp only [Act.put, List.getElem_toArray, List.getElem_cons_succ, List.getElem_cons_zero, List.setIfInBounds_toArray, List.set_cons_zero, List.set_cons_succ]
        refine wpAnyH_ready (rs := [13]) (by kernel_rfl) (by simp) ?_
        refine AllReadyH.cons (o := _) rfl (fun K hK => ?_) AllReadyH.nil
        go_simp
        (go_at_fn 177; refine (HLX.out _ _ hc3).mono ?_; rintro e w4 ⟨rfl, hb4⟩)
        try (go_wp2_with fail)
        refine hK.out _ _ ?_ (fun hHr2_2 => ?_)
        · (try dsimp only); (first | assumption | exact (Bel.refl w2).drew | exact Bel.then_ (by assumption) (by assumption))
        clear hK K hHr2_1
        try simp only [Act.put, List.getElem_toArray, List.getElem_cons_succ, List.getElem_cons_zero, List.setIfInBounds_toArray, List.set_cons_zero, List.set_cons_succ]
        refine wpAnyH_take (i := 14) (oi := _) (v := ?vr2_1_14) rfl (by kernel_rfl) (by kernel_rfl) (by kernel_rfl) ?hqr2_1_14 (Or.inl ⟨by kernel_rfl, ?hyr2_1_14⟩) (by assumption) ?restr2_1_14
        case hqr2_1_14 => exact fun _ _ _ h => h
        case hyr2_1_14 => (intro w hSw; (try dsimp only at hSw); go_simp; try with_reducible rfl)
        try simp only [Act.put, List.getElem_toArray, List.getElem_cons_succ, List.getElem_cons_zero, List.setIfInBounds_toArray, List.set_cons_zero, List.set_cons_succ]
        refine wpAnyH_take (i := 15) (oi := _) (v := ?vr2_1_15) rfl (by kernel_rfl) (by kernel_rfl) (by kernel_rfl) ?hqr2_1_15 (Or.inl ⟨by kernel_rfl, ?hyr2_1_15⟩) (by assumption) ?restr2_1_15
        case hqr2_1_15 => exact fun _ _ _ h => h
        case hyr2_1_15 => (intro w hSw; (try dsimp only at hSw); go_simp; try with_reducible rfl)
        try simp only [Act.put, List.getElem_toArray, List.getElem_cons_succ, List.getElem_cons_zero, List.setIfInBounds_toArray, List.set_cons_zero, List.set_cons_succ]
        refine wpAnyH_take (i := 16) (oi := _) (v := ?vr2_1_16) rfl (by kernel_rfl) (by kernel_rfl) (by kernel_rfl) ?hqr2_1_16 (Or.inl ⟨by kernel_rfl, ?hyr2_1_16⟩) (by assumption) ?restr2_1_16
        case hqr2_1_16 => exact fun _ _ _ h => h
        case hyr2_1_16 => (intro w hSw; (try dsimp only at hSw); go_simp; try with_reducible rfl)
        try simp only [Act.put, List.getElem_toArray, List.getElem_cons_succ, List.getElem_cons_zero, List.setIfInBounds_toArray, List.set_cons_zero, List.set_cons_succ]
        refine wpAnyH_take (i := 17) (oi := _) (v := ?vr2_1_17) rfl (by kernel_rfl) (by kernel_rfl) (by kernel_rfl) ?hqr2_1_17 (Or.inl ⟨by kernel_rfl, ?hyr2_1_17⟩) (by assumption) ?restr2_1_17
        case hqr2_1_17 => exact fun _ _ _ h => h
        case hyr2_1_17 => (intro w hSw; (try dsimp only at hSw); go_simp; try with_reducible rfl)
        try simp only [Act.put, List.getElem_toArray, List.getElem_cons_succ, List.getElem_cons_zero, List.setIfInBounds_toArray, List.set_cons_zero, List.set_cons_succ]
        refine wpAnyH_ready (rs := [18]) (by kernel_rfl) (by simp) ?_
        refine AllReadyH.cons (o := _) rfl (fun K hK => ?_) AllReadyH.nil
        go_simp
        (go_at_call 161; refine (HN.out _ (by assumption)).mono ?_; rintro e w5 ⟨rfl, hb5⟩)
        try (go_wp2_with fail)
        refine hK.out _ _ ?_ (fun hHr2_3 => ?_)
        · (try dsimp only); (first | assumption | exact (Bel.refl w2).drew | exact Bel.then_ (by assumption) (by assumption))
        clear hK K hHr2_2
        try simp only [Act.put, List.getElem_toArray, List.getElem_cons_succ, List.getElem_cons_zero, List.setIfInBounds_toArray, List.set_cons_zero, List.set_cons_succ]
        refine wpAnyH_take (i := 19) (oi := _) (v := ?vr2_1_19) rfl (by kernel_rfl) (by kernel_rfl) (by kernel_rfl) ?hqr2_1_19 (Or.inl ⟨by kernel_rfl, ?hyr2_1_19⟩) (by assumption) ?restr2_1_19
        case hqr2_1_19 => exact fun _ _ _ h => h
        case hyr2_1_19 => (intro w hSw; (try dsimp only at hSw); go_simp; try with_reducible rfl)
        try simp only [Act.put, List.getElem_toArray, List.getElem_cons_succ, List.getElem_cons_zero, List.setIfInBounds_toArray, List.set_cons_zero, List.set_cons_succ]
        refine wpAnyH_take (i := 20) (oi := _) (v := ?vr2_1_20) rfl (by kernel_rfl) (by kernel_rfl) (by kernel_rfl) ?hqr2_1_20 (Or.inl ⟨by kernel_rfl, ?hyr2_1_20⟩) (by assumption) ?restr2_1_20
        case hqr2_1_20 => exact fun _ _ _ h => h
        case hyr2_1_20 => (intro w hSw; (try dsimp only at hSw); go_simp; try with_reducible rfl)
        try simp only [Act.put, List.getElem_toArray, List.getElem_cons_succ, List.getElem_cons_zero, List.setIfInBounds_toArray, List.set_cons_zero, List.set_cons_succ]
        refine wpAnyH_take (i := 21) (oi := _) (v := ?vr2_1_21) rfl (by kernel_rfl) (by kernel_rfl) (by kernel_rfl) ?hqr2_1_21 (Or.inl ⟨by kernel_rfl, ?hyr2_1_21⟩) (by assumption) ?restr2_1_21
        case hqr2_1_21 => exact fun _ _ _ h => h
        case hyr2_1_21 => (intro w hSw; (try dsimp only at hSw); go_simp; try with_reducible rfl)
        try simp only [Act.put, List.getElem_toArray, List.getElem_cons_succ, List.getElem_cons_zero, List.setIfInBounds_toArray, List.set_cons_zero, List.set_cons_succ]
        refine wpAnyH_done (by kernel_rfl) ?_ _
        refine NoPanic.normal ?_
        go_wp2
        go_ret
        exact ⟨by rw [hRD]; rfl, HB2.out.then_ hHr2_3⟩
    · have h2I : decide ((s.size : Int) ≤ 24) = false := by simp; omega
      have hR2 : R = false := by rw [hR]; unfold namedB; rw [dif_neg (by omega)]
      subst hR2
      clear hR
      refine wp_region_noPanic ?_
      refine wp_region_held_drew (S := (fun V : World => Bel w2 V)) (by kernel_rfl) ?_ (fun hHr3_0 => ?_)
      · (try dsimp only); (first | assumption | exact (Bel.refl w2).drew)
      refine wpAnyH_take (i := 0) (oi := _) (v := ?vr3_1_0) rfl (by kernel_rfl) (by kernel_rfl) (by kernel_rfl) ?hqr3_1_0 (Or.inl ⟨by kernel_rfl, ?hyr3_1_0⟩) (by assumption) ?restr3_1_0
      case hqr3_1_0 => exact fun _ _ _ h => h
      case hyr3_1_0 => (intro w hSw; (try dsimp only at hSw); go_simp; try with_reducible rfl)
      try simp only [Act.put, List.getElem_toArray, List.getElem_cons_succ, List.getElem_cons_zero, List.setIfInBounds_toArray, List.set_cons_zero, List.set_cons_succ]
      refine wpAnyH_take (i := 1) (oi := _) (v := ?vr3_1_1) rfl (by kernel_rfl) (by kernel_rfl) (by kernel_rfl) ?hqr3_1_1 (Or.inl ⟨by kernel_rfl, ?hyr3_1_1⟩) (by assumption) ?restr3_1_1
      case hqr3_1_1 => exact fun _ _ _ h => h
      case hyr3_1_1 => (intro w hSw; (try dsimp only at hSw); go_simp; try with_reducible rfl)
      try simp only [Act.put, List.getElem_toArray, List.getElem_cons_succ, List.getElem_cons_zero, List.setIfInBounds_toArray, List.set_cons_zero, List.set_cons_succ]
      refine wpAnyH_take (i := 2) (oi := _) (v := ?vr3_1_2) rfl (by kernel_rfl) (by kernel_rfl) (by kernel_rfl) ?hqr3_1_2 (Or.inl ⟨by kernel_rfl, ?hyr3_1_2⟩) (by assumption) ?restr3_1_2
      case hqr3_1_2 => exact fun _ _ _ h => h
      case hyr3_1_2 => (intro w hSw; (try dsimp only at hSw); go_simp; try with_reducible rfl)
      try simp only [Act.put, List.getElem_toArray, List.getElem_cons_succ, List.getElem_cons_zero, List.setIfInBounds_toArray, List.set_cons_zero, List.set_cons_succ]
      refine wpAnyH_take (i := 3) (oi := _) (v := ?vr3_1_3) rfl (by kernel_rfl) (by kernel_rfl) (by kernel_rfl) ?hqr3_1_3 (Or.inl ⟨by kernel_rfl, ?hyr3_1_3⟩) (by assumption) ?restr3_1_3
      case hqr3_1_3 => exact fun _ _ _ h => h
      case hyr3_1_3 => (intro w hSw; (try dsimp only at hSw); go_simp; try with_reducible rfl)
      try simp only [Act.put, List.getElem_toArray, List.getElem_cons_succ, List.getElem_cons_zero, List.setIfInBounds_toArray, List.set_cons_zero, List.set_cons_succ]
      refine wpAnyH_take (i := 4) (oi := _) (v := ?vr3_1_4) rfl (by kernel_rfl) (by kernel_rfl) (by kernel_rfl) ?hqr3_1_4 (Or.inl ⟨by kernel_rfl, ?hyr3_1_4⟩) (by assumption) ?restr3_1_4
      case hqr3_1_4 => exact fun _ _ _ h => h
      case hyr3_1_4 => (intro w hSw; (try dsimp only at hSw); go_simp; try with_reducible rfl)
      try simp only [Act.put, List.getElem_toArray, List.getElem_cons_succ, List.getElem_cons_zero, List.setIfInBounds_toArray, List.set_cons_zero, List.set_cons_succ]
      refine wpAnyH_take (i := 5) (oi := _) (v := ?vr3_1_5) rfl (by kernel_rfl) (by kernel_rfl) (by kernel_rfl) ?hqr3_1_5 (Or.inl ⟨by kernel_rfl, ?hyr3_1_5⟩) (by assumption) ?restr3_1_5
      case hqr3_1_5 => exact fun _ _ _ h => h
      case hyr3_1_5 => (intro w hSw; (try dsimp only at hSw); go_simp; try with_reducible rfl)
      try simp only [Act.put, List.getElem_toArray, List.getElem_cons_succ, List.getElem_cons_zero, List.setIfInBounds_toArray, List.set_cons_zero, List.set_cons_succ]
      refine wpAnyH_take (i := 6) (oi := _) (v := ?vr3_1_6) rfl (by kernel_rfl) (by kernel_rfl) (by kernel_rfl) ?hqr3_1_6 (Or.inl ⟨by kernel_rfl, ?hyr3_1_6⟩) (by assumption) ?restr3_1_6
      case hqr3_1_6 => exact fun _ _ _ h => h
      case hyr3_1_6 => (intro w hSw; (try dsimp only at hSw); go_simp; try with_reducible rfl)
      try simp only [Act.put, List.getElem_toArray, List.getElem_cons_succ, List.getElem_cons_zero, List.setIfInBounds_toArray, List.set_cons_zero, List.set_cons_succ]
      refine wpAnyH_take (i := 7) (oi := _) (v := ?vr3_1_7) rfl (by kernel_rfl) (by kernel_rfl) (by kernel_rfl) ?hqr3_1_7 (Or.inl ⟨by kernel_rfl, ?hyr3_1_7⟩) (by assumption) ?restr3_1_7
      case hqr3_1_7 => exact fun _ _ _ h => h
      case hyr3_1_7 => (intro w hSw; (try dsimp only at hSw); go_simp; try with_reducible rfl)
      try simp only [Act.put, List.getElem_toArray, List.getElem_cons_succ, List.getElem_cons_zero, List.setIfInBounds_toArray, List.set_cons_zero, List.set_cons_succ]
      refine wpAnyH_take (i := 8) (oi := _) (v := ?vr3_1_8) rfl (by kernel_rfl) (by kernel_rfl) (by kernel_rfl) ?hqr3_1_8 (Or.inl ⟨by kernel_rfl, ?hyr3_1_8⟩) (by assumption) ?restr3_1_8
      case hqr3_1_8 => exact fun _ _ _ h => h
      case hyr3_1_8 => (intro w hSw; (try dsimp only at hSw); go_simp; try with_reducible rfl)
      try simp only [Act.put, List.getElem_toArray, List.getElem_cons_succ, List.getElem_cons_zero, List.setIfInBounds_toArray, List.set_cons_zero, List.set_cons_succ]
      refine wpAnyH_take (i := 9) (oi := _) (v := undef) rfl (by kernel_rfl) (by kernel_rfl) (by kernel_rfl) (fun _ _ _ h => h) (Or.inr ⟨by kernel_rfl, rfl⟩) (by assumption) ?restr3_1_9
      try simp only [Act.put, List.getElem_toArray, List.getElem_cons_succ, List.getElem_cons_zero, List.setIfInBounds_toArray, List.set_cons_zero, List.set_cons_succ]
      refine wpAnyH_take (i := 10) (oi := _) (v := undef) rfl (by kernel_rfl) (by kernel_rfl) (by kernel_rfl) (fun _ _ _ h => h) (Or.inr ⟨by kernel_rfl, rfl⟩) (by assumption) ?restr3_1_10
      try simp only [Act.put, List.getElem_toArray, List.getElem_cons_succ, List.getElem_cons_zero, List.setIfInBounds_toArray, List.set_cons_zero, List.set_cons_succ]
      refine wpAnyH_take (i := 11) (oi := _) (v := undef) rfl (by kernel_rfl) (by kernel_rfl) (by kernel_rfl) (fun _ _ _ h => h) (Or.inr ⟨by kernel_rfl, rfl⟩) (by assumption) ?restr3_1_11
      try simp only [Act.put, List.getElem_toArray, List.getElem_cons_succ, List.getElem_cons_zero, List.setIfInBounds_toArray, List.set_cons_zero, List.set_cons_succ]
      refine wpAnyH_take (i := 12) (oi := _) (v := undef) rfl (by kernel_rfl) (by kernel_rfl) (by kernel_rfl) (fun _ _ _ h => h) (Or.inr ⟨by kernel_rfl, rfl⟩) (by assumption) ?restr3_1_12
      try simp only [Act.put, List.getElem_toArray, List.getElem_cons_succ, List.getElem_cons_zero, List.setIfInBounds_toArray, List.set_cons_zero, List.set_cons_succ]
      refine wpAnyH_take (i := 13) (oi := _) (v := undef) rfl (by kernel_rfl) (by kernel_rfl) (by kernel_rfl) (fun _ _ _ h => h) (Or.inr ⟨by kernel_rfl, rfl⟩) (by assumption) ?restr3_1_13
      try simp only [Act.put, List.getElem_toArray, List.getElem_cons_succ, List.getElem_cons_zero, List.setIfInBounds_toArray, List.set_cons_zero, List.set_cons_succ]
      refine wpAnyH_take (i := 14) (oi := _) (v := ?vr3_1_14) rfl (by kernel_rfl) (by kernel_rfl) (by kernel_rfl) ?hqr3_1_14 (Or.inl ⟨by kernel_rfl, ?hyr3_1_14⟩) (by assumption) ?restr3_1_14
      case hqr3_1_14 => exact fun _ _ _ h => h
      case hyr3_1_14 => (intro w hSw; (try dsimp only at hSw); go_simp; try with_reducible rfl)
      try simp only [Act.put, List.getElem_toArray, List.getElem_cons_succ, List.getElem_cons_zero, List.setIfInBounds_toArray, List.set_cons_zero, List.set_cons_succ]
      refine wpAnyH_take (i := 15) (oi := _) (v := ?vr3_1_15) rfl (by kernel_rfl) (by kernel_rfl) (by kernel_rfl) ?hqr3_1_15 (Or.inl ⟨by kernel_rfl, ?hyr3_1_15⟩) (by assumption) ?restr3_1_15
      case hqr3_1_15 => exact fun _ _ _ h => h
      case hyr3_1_15 => (intro w hSw; (try dsimp only at hSw); go_simp; try with_reducible rfl)
      try simp only [Act.put, List.getElem_toArray, List.getElem_cons_succ, List.getElem_cons_zero, List.setIfInBounds_toArray, List.set_cons_zero, List.set_cons_succ]
      refine wpAnyH_take (i := 16) (oi := _) (v := undef) rfl (by kernel_rfl) (by kernel_rfl) (by kernel_rfl) (fun _ _ _ h => h) (Or.inr ⟨by kernel_rfl, rfl⟩) (by assumption) ?restr3_1_16
      try simp only [Act.put, List.getElem_toArray, List.getElem_cons_succ, List.getElem_cons_zero, List.setIfInBounds_toArray, List.set_cons_zero, List.set_cons_succ]
      refine wpAnyH_take (i := 17) (oi := _) (v := undef) rfl (by kernel_rfl) (by kernel_rfl) (by kernel_rfl) (fun _ _ _ h => h) (Or.inr ⟨by kernel_rfl, rfl⟩) (by assumption) ?restr3_1_17
      try simp only [Act.put, List.getElem_toArray, List.getElem_cons_succ, List.getElem_cons_zero, List.setIfInBounds_toArray, List.set_cons_zero, List.set_cons_succ]
      refine wpAnyH_take (i := 18) (oi := _) (v := undef) rfl (by kernel_rfl) (by kernel_rfl) (by kernel_rfl) (fun _ _ _ h => h) (Or.inr ⟨by kernel_rfl, rfl⟩) (by assumption) ?restr3_1_18
      try simp only [Act.put, List.getElem_toArray, List.getElem_cons_succ, List.getElem_cons_zero, List.setIfInBounds_toArray, List.set_cons_zero, List.set_cons_succ]
      refine wpAnyH_take (i := 19) (oi := _) (v := undef) rfl (by kernel_rfl) (by kernel_rfl) (by kernel_rfl) (fun _ _ _ h => h) (Or.inr ⟨by kernel_rfl, rfl⟩) (by assumption) ?restr3_1_19
      try simp only [Act.put, List.getElem_toArray, List.getElem_cons_succ, List.getElem_cons_zero, List.setIfInBounds_toArray, List.set_cons_zero, List.set_cons_succ]
      refine wpAnyH_take (i := 20) (oi := _) (v := ?vr3_1_20) rfl (by kernel_rfl) (by kernel_rfl) (by kernel_rfl) ?hqr3_1_20 (Or.inl ⟨by kernel_rfl, ?hyr3_1_20⟩) (by assumption) ?restr3_1_20
      case hqr3_1_20 => exact fun _ _ _ h => h
      case hyr3_1_20 => (intro w hSw; (try dsimp only at hSw); go_simp; try with_reducible rfl)
      try simp only [Act.put, List.getElem_toArray, List.getElem_cons_succ, List.getElem_cons_zero, List.setIfInBounds_toArray, List.set_cons_zero, List.set_cons_succ]
      refine wpAnyH_take (i := 21) (oi := _) (v := ?vr3_1_21) rfl (by kernel_rfl) (by kernel_rfl) (by kernel_rfl) ?hqr3_1_21 (Or.inl ⟨by kernel_rfl, ?hyr3_1_21⟩) (by assumption) ?restr3_1_21
      case hqr3_1_21 => exact fun _ _ _ h => h
      case hyr3_1_21 => (intro w hSw; (try dsimp only at hSw); go_simp; try with_reducible rfl)
      try simp only [Act.put, List.getElem_toArray, List.getElem_cons_succ, List.getElem_cons_zero, List.setIfInBounds_toArray, List.set_cons_zero, List.set_cons_succ]
      refine wpAnyH_done (by kernel_rfl) ?_ _
      refine NoPanic.normal ?_
      go_wp2
      go_ret
      exact ⟨rfl, HB2.out.then_ hHr3_0⟩
  · have h2I : decide ((1 : Int) ≤ s.size) = false := by simp; omega
    have h3I : decide (1 ≤ s.size) = false := by rw [decide_eq_false_iff_not]; exact h1
    have hR2 : R = false := by rw [hR]; unfold namedB; rw [dif_neg (by omega)]
    subst hR2
    clear hR
    refine wp_region_noPanic ?_
    refine wp_region_held_drew (S := (fun V : World => Bel w2 V)) (by kernel_rfl) ?_ (fun hHr4_0 => ?_)
    · (try dsimp only); (first | assumption | exact (Bel.refl w2).drew)
    refine wpAnyH_take (i := 0) (oi := _) (v := ?vr4_1_0) rfl (by kernel_rfl) (by kernel_rfl) (by kernel_rfl) ?hqr4_1_0 (Or.inl ⟨by kernel_rfl, ?hyr4_1_0⟩) (by assumption) ?restr4_1_0
    case hqr4_1_0 => exact fun _ _ _ h => h
    case hyr4_1_0 => (intro w hSw; (try dsimp only at hSw); go_simp; try with_reducible rfl)
    try simp only [Act.put, List.getElem_toArray, List.getElem_cons_succ, List.getElem_cons_zero, List.setIfInBounds_toArray, List.set_cons_zero, List.set_cons_succ]
    refine wpAnyH_take (i := 1) (oi := _) (v := ?vr4_1_1) rfl (by kernel_rfl) (by kernel_rfl) (by kernel_rfl) ?hqr4_1_1 (Or.inl ⟨by kernel_rfl, ?hyr4_1_1⟩) (by assumption) ?restr4_1_1
    case hqr4_1_1 => exact fun _ _ _ h => h
    case hyr4_1_1 => (intro w hSw; (try dsimp only at hSw); go_simp; try with_reducible rfl)
    try simp only [Act.put, List.getElem_toArray, List.getElem_cons_succ, List.getElem_cons_zero, List.setIfInBounds_toArray, List.set_cons_zero, List.set_cons_succ]
    refine wpAnyH_take (i := 2) (oi := _) (v := ?vr4_1_2) rfl (by kernel_rfl) (by kernel_rfl) (by kernel_rfl) ?hqr4_1_2 (Or.inl ⟨by kernel_rfl, ?hyr4_1_2⟩) (by assumption) ?restr4_1_2
    case hqr4_1_2 => exact fun _ _ _ h => h
    case hyr4_1_2 => (intro w hSw; (try dsimp only at hSw); go_simp; try with_reducible rfl)
    try simp only [Act.put, List.getElem_toArray, List.getElem_cons_succ, List.getElem_cons_zero, List.setIfInBounds_toArray, List.set_cons_zero, List.set_cons_succ]
    refine wpAnyH_take (i := 3) (oi := _) (v := ?vr4_1_3) rfl (by kernel_rfl) (by kernel_rfl) (by kernel_rfl) ?hqr4_1_3 (Or.inl ⟨by kernel_rfl, ?hyr4_1_3⟩) (by assumption) ?restr4_1_3
    case hqr4_1_3 => exact fun _ _ _ h => h
    case hyr4_1_3 => (intro w hSw; (try dsimp only at hSw); go_simp; try with_reducible rfl)
    try simp only [Act.put, List.getElem_toArray, List.getElem_cons_succ, List.getElem_cons_zero, List.setIfInBounds_toArray, List.set_cons_zero, List.set_cons_succ]
    refine wpAnyH_take (i := 4) (oi := _) (v := undef) rfl (by kernel_rfl) (by kernel_rfl) (by kernel_rfl) (fun _ _ _ h => h) (Or.inr ⟨by kernel_rfl, rfl⟩) (by assumption) ?restr4_1_4
    try simp only [Act.put, List.getElem_toArray, List.getElem_cons_succ, List.getElem_cons_zero, List.setIfInBounds_toArray, List.set_cons_zero, List.set_cons_succ]
    refine wpAnyH_take (i := 5) (oi := _) (v := undef) rfl (by kernel_rfl) (by kernel_rfl) (by kernel_rfl) (fun _ _ _ h => h) (Or.inr ⟨by kernel_rfl, rfl⟩) (by assumption) ?restr4_1_5
    try simp only [Act.put, List.getElem_toArray, List.getElem_cons_succ, List.getElem_cons_zero, List.setIfInBounds_toArray, List.set_cons_zero, List.set_cons_succ]
    refine wpAnyH_take (i := 6) (oi := _) (v := undef) rfl (by kernel_rfl) (by kernel_rfl) (by kernel_rfl) (fun _ _ _ h => h) (Or.inr ⟨by kernel_rfl, rfl⟩) (by assumption) ?restr4_1_6
    try simp only [Act.put, List.getElem_toArray, List.getElem_cons_succ, List.getElem_cons_zero, List.setIfInBounds_toArray, List.set_cons_zero, List.set_cons_succ]
    refine wpAnyH_take (i := 7) (oi := _) (v := ?vr4_1_7) rfl (by kernel_rfl) (by kernel_rfl) (by kernel_rfl) ?hqr4_1_7 (Or.inl ⟨by kernel_rfl, ?hyr4_1_7⟩) (by assumption) ?restr4_1_7
    case hqr4_1_7 => exact fun _ _ _ h => h
    case hyr4_1_7 => (intro w hSw; (try dsimp only at hSw); go_simp; try with_reducible rfl)
    try simp only [Act.put, List.getElem_toArray, List.getElem_cons_succ, List.getElem_cons_zero, List.setIfInBounds_toArray, List.set_cons_zero, List.set_cons_succ]
    refine wpAnyH_take (i := 8) (oi := _) (v := ?vr4_1_8) rfl (by kernel_rfl) (by kernel_rfl) (by kernel_rfl) ?hqr4_1_8 (Or.inl ⟨by kernel_rfl, ?hyr4_1_8⟩) (by assumption) ?restr4_1_8
    case hqr4_1_8 => exact fun _ _ _ h => h
    case hyr4_1_8 => (intro w hSw; (try dsimp only at hSw); go_simp; try with_reducible rfl)
    try simp only [Act.put, List.getElem_toArray, List.getElem_cons_succ, List.getElem_cons_zero, List.setIfInBounds_toArray, List.set_cons_zero, List.set_cons_succ]
    refine wpAnyH_take (i := 9) (oi := _) (v := undef) rfl (by kernel_rfl) (by kernel_rfl) (by kernel_rfl) (fun _ _ _ h => h) (Or.inr ⟨by kernel_rfl, rfl⟩) (by assumption) ?restr4_1_9
    try simp only [Act.put, List.getElem_toArray, List.getElem_cons_succ, List.getElem_cons_zero, List.setIfInBounds_toArray, List.set_cons_zero, List.set_cons_succ]
    refine wpAnyH_take (i := 10) (oi := _) (v := undef) rfl (by kernel_rfl) (by kernel_rfl) (by kernel_rfl) (fun _ _ _ h => h) (Or.inr ⟨by kernel_rfl, rfl⟩) (by assumption) ?restr4_1_10
    try simp only [Act.put, List.getElem_toArray, List.getElem_cons_succ, List.getElem_cons_zero, List.setIfInBounds_toArray, List.set_cons_zero, List.set_cons_succ]
    refine wpAnyH_take (i := 11) (oi := _) (v := undef) rfl (by kernel_rfl) (by kernel_rfl) (by kernel_rfl) (fun _ _ _ h => h) (Or.inr ⟨by kernel_rfl, rfl⟩) (by assumption) ?restr4_1_11
    try simp only [Act.put, List.getElem_toArray, List.getElem_cons_succ, List.getElem_cons_zero, List.setIfInBounds_toArray, List.set_cons_zero, List.set_cons_succ]
    refine wpAnyH_take (i := 12) (oi := _) (v := undef) rfl (by kernel_rfl) (by kernel_rfl) (by kernel_rfl) (fun _ _ _ h => h) (Or.inr ⟨by kernel_rfl, rfl⟩) (by assumption) ?restr4_1_12
    try simp only [Act.put, List.getElem_toArray, List.getElem_cons_succ, List.getElem_cons_zero, List.setIfInBounds_toArray, List.set_cons_zero, List.set_cons_succ]
    refine wpAnyH_take (i := 13) (oi := _) (v := undef) rfl (by kernel_rfl) (by kernel_rfl) (by kernel_rfl) (fun _ _ _ h => h) (Or.inr ⟨by kernel_rfl, rfl⟩) (by assumption) ?restr4_1_13
    try simp only [Act.put, List.getElem_toArray, List.getElem_cons_succ, List.getElem_cons_zero, List.setIfInBounds_toArray, List.set_cons_zero, List.set_cons_succ]
    refine wpAnyH_take (i := 14) (oi := _) (v := ?vr4_1_14) rfl (by kernel_rfl) (by kernel_rfl) (by kernel_rfl) ?hqr4_1_14 (Or.inl ⟨by kernel_rfl, ?hyr4_1_14⟩) (by assumption) ?restr4_1_14
    case hqr4_1_14 => exact fun _ _ _ h => h
    case hyr4_1_14 => (intro w hSw; (try dsimp only at hSw); go_simp; try with_reducible rfl)
    try simp only [Act.put, List.getElem_toArray, List.getElem_cons_succ, List.getElem_cons_zero, List.setIfInBounds_toArray, List.set_cons_zero, List.set_cons_succ]
    refine wpAnyH_take (i := 15) (oi := _) (v := ?vr4_1_15) rfl (by kernel_rfl) (by kernel_rfl) (by kernel_rfl) ?hqr4_1_15 (Or.inl ⟨by kernel_rfl, ?hyr4_1_15⟩) (by assumption) ?restr4_1_15
    case hqr4_1_15 => exact fun _ _ _ h => h
    case hyr4_1_15 => (intro w hSw; (try dsimp only at hSw); go_simp; try with_reducible rfl)
    try simp only [Act.put, List.getElem_toArray, List.getElem_cons_succ, List.getElem_cons_zero, List.setIfInBounds_toArray, List.set_cons_zero, List.set_cons_succ]
    refine wpAnyH_take (i := 16) (oi := _) (v := undef) rfl (by kernel_rfl) (by kernel_rfl) (by kernel_rfl) (fun _ _ _ h => h) (Or.inr ⟨by kernel_rfl, rfl⟩) (by assumption) ?restr4_1_16
    try simp only [Act.put, List.getElem_toArray, List.getElem_cons_succ, List.getElem_cons_zero, List.setIfInBounds_toArray, List.set_cons_zero, List.set_cons_succ]
    refine wpAnyH_take (i := 17) (oi := _) (v := undef) rfl (by kernel_rfl) (by kernel_rfl) (by kernel_rfl) (fun _ _ _ h => h) (Or.inr ⟨by kernel_rfl, rfl⟩) (by assumption) ?restr4_1_17
    try simp only [Act.put, List.getElem_toArray, List.getElem_cons_succ, List.getElem_cons_zero, List.setIfInBounds_toArray, List.set_cons_zero, List.set_cons_succ]
    refine wpAnyH_take (i := 18) (oi := _) (v := undef) rfl (by kernel_rfl) (by kernel_rfl) (by kernel_rfl) (fun _ _ _ h => h) (Or.inr ⟨by kernel_rfl, rfl⟩) (by assumption) ?restr4_1_18
    try simp only [Act.put, List.getElem_toArray, List.getElem_cons_succ, List.getElem_cons_zero, List.setIfInBounds_toArray, List.set_cons_zero, List.set_cons_succ]
    refine wpAnyH_take (i := 19) (oi := _) (v := undef) rfl (by kernel_rfl) (by kernel_rfl) (by kernel_rfl) (fun _ _ _ h => h) (Or.inr ⟨by kernel_rfl, rfl⟩) (by assumption) ?restr4_1_19
    try simp only [Act.put, List.getElem_toArray, List.getElem_cons_succ, List.getElem_cons_zero, List.setIfInBounds_toArray, List.set_cons_zero, List.set_cons_succ]
    refine wpAnyH_take (i := 20) (oi := _) (v := ?vr4_1_20) rfl (by kernel_rfl) (by kernel_rfl) (by kernel_rfl) ?hqr4_1_20 (Or.inl ⟨by kernel_rfl, ?hyr4_1_20⟩) (by assumption) ?restr4_1_20
    case hqr4_1_20 => exact fun _ _ _ h => h
    case hyr4_1_20 => (intro w hSw; (try dsimp only at hSw); go_simp; try with_reducible rfl)
    try simp only [Act.put, List.getElem_toArray, List.getElem_cons_succ, List.getElem_cons_zero, List.setIfInBounds_toArray, List.set_cons_zero, List.set_cons_succ]
    refine wpAnyH_take (i := 21) (oi := _) (v := ?vr4_1_21) rfl (by kernel_rfl) (by kernel_rfl) (by kernel_rfl) ?hqr4_1_21 (Or.inl ⟨by kernel_rfl, ?hyr4_1_21⟩) (by assumption) ?restr4_1_21
    case hqr4_1_21 => exact fun _ _ _ h => h
    case hyr4_1_21 => (intro w hSw; (try dsimp only at hSw); go_simp; try with_reducible rfl)
    try simp only [Act.put, List.getElem_toArray, List.getElem_cons_succ, List.getElem_cons_zero, List.setIfInBounds_toArray, List.set_cons_zero, List.set_cons_succ]
    refine wpAnyH_done (by kernel_rfl) ?_ _
    refine NoPanic.normal ?_
    go_wp2
    go_ret
    exact ⟨rfl, HB2.out.then_ hHr4_0⟩
end Go.Proofs.YtkklmflclmgjeaaGreatDoor
