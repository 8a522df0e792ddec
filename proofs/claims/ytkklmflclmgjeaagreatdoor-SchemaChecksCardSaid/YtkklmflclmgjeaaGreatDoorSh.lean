/-
  Schema: sets of places.
-/
import Derived.Test.YtkklmflclmgjeaaGreatDoorSf
set_option linter.unusedVariables false
set_option linter.unusedSimpArgs false
set_option linter.unusedVariables false
set_option linter.unusedSimpArgs false
namespace Go.Proofs.YtkklmflclmgjeaaGreatDoor
open Go.RowKit Go.Shelf Go.Lib
attribute [local go_sem] Oper.semAt_some

/-- A list of numbers lies behind a slice. -/
def IntsAt (w : World) (v : Value) (l : List Int) : Prop := ∃ A c, v = .slice A l.length c ∧ l.length ≤ c ∧ c ≤ maxLen ∧ (0 < l.length → ∃ b off, A = some ⟨b, off, none⟩ ∧ ∀ i n, l[i]? = some n → w.cell? ⟨b, off + i, none⟩ = some (.int .i64 n))
theorem IntsAt.bel {w w' : World} {v : Value} {l : List Int} (h : IntsAt w v l) (hb : Bel w w') : IntsAt w' v l := by
  obtain ⟨A, c, e, hc, hm, h⟩ := h
  exact ⟨A, c, e, hc, hm, fun hl => by obtain ⟨b, off, ea, hi⟩ := h hl; exact ⟨b, off, ea, fun i n hn => hb.c (hi i n hn)⟩⟩
theorem IntsAt.take {w : World} {A : Option Addr} {c : Nat} {l : List Int} (h : IntsAt w (.slice A l.length c) l) (k : Nat) (hk : k ≤ l.length) : IntsAt w (.slice A k c) (l.take k) := by
  obtain ⟨A', c', e, hc, hm, h⟩ := h
  cases e
  have e : (l.take k).length = k := by rw [List.length_take]; omega
  refine ⟨A, c, by rw [e], by omega, hm, fun hl => ?_⟩
  obtain ⟨b, off, ea, hi⟩ := h (by omega)
  exact ⟨b, off, ea, fun i n hn => hi i n (by
    have hlt := (List.getElem?_eq_some_iff.1 hn).1
    rw [List.getElem?_take, if_pos (by omega)] at hn
    exact hn)⟩
theorem slIndexInt_any (v : Value) (l : List Int) (x : Int) (w : World) (h : IntsAt w v l) : Calls Tryz.prog 176 #[v, .int .i64 x] w fun e w' => (∃ i : Int, e = .returned (.int .i64 i) ∧ (0 ≤ i ↔ x ∈ l)) ∧ w = w' := by
  obtain ⟨A, c, rfl, hc, hm, hr⟩ := h
  have HRR := Lib.hid hr
  have hlI : (l.length : Int) ≤ 9223372036854775807 := by unfold maxLen at hm; omega
  clear hr hm
  go_enter Tryz.func176, Tryz.ntmps176
  go_wp2
  go_loopw [8] (fun i wr => ∃ k : Nat, k ≤ l.length ∧ i = .int .i64 k ∧ wr = w ∧ Hid (x ∉ l.take k)) (fun i _ => l.length - (intOf i).toNat)
  case atStart => exact ⟨0, Nat.zero_le _, rfl, rfl, by show _ ∉ _; simp⟩
  case round =>
    obtain ⟨k, hk, rfl, hwr, HT⟩ := hrel
    have hwr' := hwr.symm
    clear hwr
    subst hwr'
    by_cases hlt : k < l.length
    · obtain ⟨y, hy⟩ : ∃ y, l[k]? = some y := ⟨_, List.getElem?_eq_getElem hlt⟩
      obtain ⟨b, off, rfl, hi⟩ := HRR.out (by omega)
      have hc1 := hi k y hy
      have hkI : (k : Int) < l.length := by omega
      have HMEM : Hid (y ∈ l) := List.mem_of_getElem? hy
      have HNX : Hid (¬ x = y → x ∉ l.take (k + 1)) := fun e => by
        rw [List.take_add_one, hy]
        intro hm
        rcases List.mem_append.1 hm with hm | hm
        · exact HT.out hm
        · simp at hm; exact e hm
      clear hi hy
      by_cases hxy : x = y
      · subst hxy
        go_wp2
        go_ret
        exact ⟨⟨(k : Int), rfl, by constructor <;> intro _ <;> first | exact HMEM.out | omega⟩, rfl⟩
      · have hb : (x == y) = false := by rw [beq_eq_false_iff_ne]; exact hxy
        go_wp2
        go_roundw
        case rel => exact ⟨k + 1, by omega, by go_num, by first | rfl | trivial, HNX.out hxy⟩
        case measure => simp [intOf]; omega
    · obtain rfl : k = l.length := by omega
      have HN : Hid (x ∉ l) := by show _ ∉ _; have := HT.out; rwa [List.take_length] at this
      clear HT hlt hk
      go_wp2
      go_ret
      exact ⟨⟨-1, rfl, by constructor <;> intro h <;> first | exact absurd h HN.out | (exfalso; omega)⟩, rfl⟩
theorem slContainsInt_any (v : Value) (l : List Int) (x : Int) (w : World) (h : IntsAt w v l) : Calls Tryz.prog 149 #[v, .int .i64 x] w fun e w' => e = .returned (.bool (decide (x ∈ l))) ∧ w = w' := by
  have HI := Lib.hid (slIndexInt_any v l x w h)
  obtain ⟨A, c, rfl, -⟩ := h
  obtain ⟨R, hR⟩ : ∃ R, R = decide (x ∈ l) := ⟨_, rfl⟩
  rw [← hR]
  have HR := Lib.hid hR
  clear hR
  go_enter Tryz.func149, Tryz.ntmps149
  go_wp2_with fail
  refine HI.out.mono ?_
  rintro e w' ⟨⟨i, rfl, hi⟩, rfl⟩
  have hd : decide (x ∈ l) = decide (0 ≤ i) := by by_cases h : x ∈ l <;> simp [h, hi]
  have HRD : Hid (R = decide (0 ≤ i)) := by show _ = _; rw [HR.out, hd]
  clear hi hd HI
  go_wp2
  go_ret
  exact ⟨by rw [HRD.out]; rfl, rfl⟩
/-- May places be a set's, of so many columns? -/
def inB (l : List Int) (many : Int) (i : Nat) : Bool := decide (0 ≤ l.getD i 0 ∧ l.getD i 0 < many ∧ l.getD i 0 ∉ l.take i)
def setB (l : List Int) (many : Int) : Bool := decide (1 ≤ l.length ∧ l.length ≤ 4) && (List.range l.length).all (inB l many)
theorem setB_false {l : List Int} {many : Int} {i : Nat} (hi : i < l.length) (h : inB l many i = false) : setB l many = false := by
  unfold setB
  rw [Bool.and_eq_false_iff]
  right
  rw [List.all_eq_false]
  exact ⟨i, List.mem_range.2 hi, by simp [h]⟩
theorem setB_true {l : List Int} {many : Int} (hl : 1 ≤ l.length ∧ l.length ≤ 4) (h : ∀ i, i < l.length → inB l many i = true) : setB l many = true := by
  unfold setB
  rw [decide_eq_true hl, Bool.true_and, List.all_eq_true]
  intro i hi
  exact h i (List.mem_range.1 hi)
set_option maxHeartbeats 2000000 in
theorem lookset_any (Ac : Option Addr) (many cc : Nat) (hmany : many ≤ maxLen) (vk vu v : Value) (l : List Int) (w : World) (h : IntsAt w v l) : Calls Tryz.prog 100 #[.agg #[.slice Ac many cc, vk, vu], v] w fun e w' => e = .returned (.bool (setB l many)) ∧ Bel w w' := by
  obtain ⟨R, hR⟩ : ∃ R, R = setB l many := ⟨_, rfl⟩
  rw [← hR]
  have HR := Lib.hid hR
  clear hR
  obtain ⟨W, hW⟩ : ∃ W, W = w.alloc (.cells #[.slice Ac many cc, vk, vu] 100) := ⟨_, rfl⟩
  have hbW : Bel w W := by rw [hW]; exact (Bel.refl w).alloc _
  have h2 := h.bel hbW
  have hc0 : W.cell? ⟨w.heap.size, 0, none⟩ = some (.slice Ac many cc) := by rw [hW]; go_simp
  obtain ⟨A, c, rfl, hcl, hm, hr⟩ := id h2
  have HV := Lib.hid h2
  have HB := Lib.hid hbW
  have hlI : (l.length : Int) ≤ 9223372036854775807 := by unfold maxLen at hm; omega
  have hclI : (l.length : Int) ≤ c := by omega
  have hmI : (many : Int) ≤ 9223372036854775807 := by unfold maxLen at hmany; omega
  have HRR := Lib.hid hr
  clear hr hm h h2 hbW hmany
  by_cases h1 : 1 ≤ l.length
  · by_cases h4 : l.length ≤ 4
    · have h1b : decide ((l.length : Int) < 1) = false := by simp; omega
      have h4b : decide ((4 : Int) < l.length) = false := by simp; omega
      go_enter Tryz.func100, Tryz.ntmps100
      go_wp2
      rw [← hW]
      clear hW
      go_loopw [17] (fun i wr => ∃ k : Nat, k ≤ l.length ∧ i = .int .i64 k ∧ Hid (∀ j, j < k → inB l many j = true) ∧ wr = W) (fun i _ => l.length - (intOf i).toNat)
      case atStart => exact ⟨0, Nat.zero_le _, rfl, fun j hj => by omega, rfl⟩
      case round =>
        obtain ⟨k, hk, rfl, HT, hwr⟩ := hrel
        have hwr' := hwr.symm
        clear hwr
        subst hwr'
        by_cases hlt : k < l.length
        · obtain ⟨x, hx⟩ : ∃ x, l[k]? = some x := ⟨_, List.getElem?_eq_getElem hlt⟩
          obtain ⟨b, off, rfl, hi⟩ := HRR.out (by omega)
          have hc1 := hi k x hx
          have hkI : (k : Int) < l.length := by omega
          have hkc : (k : Int) ≤ c := by omega
          have hgx : l.getD k 0 = x := by simp [List.getD, hx]
          have HIN : Hid (inB l many k = decide (0 ≤ x ∧ x < many ∧ x ∉ l.take k)) := by show _ = _; unfold inB; rw [hgx]
          have HC := Lib.hid (slContainsInt_any _ (l.take k) x W (HV.out.take k hk))
          have HNX : Hid (inB l many k = true → ∀ j, j < k + 1 → inB l many j = true) := fun e j hj => by
            by_cases ej : j = k
            · subst ej; exact e
            · exact HT.out j (by omega)
          have HNO : Hid (inB l many k = false → R = false) := fun e => by rw [HR.out]; exact setB_false hlt e
          have hk1 : k + 1 ≤ l.length := hlt
          clear hi hx hgx
          by_cases hx0 : x < 0
          · have hf := HNO.out (by rw [HIN.out]; exact decide_eq_false (by omega))
            go_wp2_with (go_at_call 149; refine HC.out.mono ?_; rintro e w' ⟨rfl, rfl⟩)
            go_ret
            exact ⟨by first | rfl | (rw [hf]; rfl), HB.out⟩
          · have hx0b : decide (x < 0) = false := by simp; omega
            by_cases hxm : (many : Int) ≤ x
            · have hf := HNO.out (by rw [HIN.out]; exact decide_eq_false (by omega))
              go_wp2_with (go_at_call 149; refine HC.out.mono ?_; rintro e w' ⟨rfl, rfl⟩)
              go_ret
              exact ⟨by first | rfl | (rw [hf]; rfl), HB.out⟩
            · have hxmb : decide ((many : Int) ≤ x) = false := by simp; omega
              by_cases hxi : x ∈ l.take k
              · have hf := HNO.out (by rw [HIN.out]; exact decide_eq_false (fun e => e.2.2 hxi))
                rw [decide_eq_true hxi] at HC
                clear hxi
                go_wp2_with (go_at_call 149; refine HC.out.mono ?_; rintro e w' ⟨rfl, rfl⟩)
                go_ret
                exact ⟨by first | rfl | (rw [hf]; rfl), HB.out⟩
              · have ht := HNX.out (by rw [HIN.out]; exact decide_eq_true ⟨by omega, by omega, hxi⟩)
                have HTT := Lib.hid ht
                rw [decide_eq_false hxi] at HC
                clear hxi ht
                go_wp2_with (go_at_call 149; refine HC.out.mono ?_; rintro e w' ⟨rfl, rfl⟩)
                go_roundw
                case rel => exact ⟨k + 1, by omega, by go_num, HTT.out, by first | rfl | trivial⟩
                case measure => simp [intOf]; omega
        · obtain rfl : k = l.length := by omega
          have ht : R = true := by rw [HR.out]; exact setB_true ⟨h1, h4⟩ HT.out
          clear HT
          go_wp2
          go_ret
          exact ⟨by first | rfl | (rw [ht]; rfl), HB.out⟩
    · have hf : R = false := by rw [HR.out]; unfold setB; rw [decide_eq_false (by omega)]; rfl
      have h1b : decide ((l.length : Int) < 1) = false := by simp; omega
      have h4b : (4 : Int) < l.length := by omega
      subst hW
      go_enter Tryz.func100, Tryz.ntmps100
      go_wp2
      go_ret
      exact ⟨by first | rfl | (rw [hf]; rfl), HB.out⟩
  · have hf : R = false := by rw [HR.out]; unfold setB; rw [decide_eq_false (by omega)]; rfl
    have h1b : (l.length : Int) < 1 := by omega
    subst hW
    go_enter Tryz.func100, Tryz.ntmps100
    go_wp2
    all_goals
      go_ret
      exact ⟨by first | rfl | (rw [hf]; rfl), HB.out⟩
end Go.Proofs.YtkklmflclmgjeaaGreatDoor
