/-
  The document's answers for layers 1 and 3: names, columns, values, which fit.
-/
import Derived.Test.YtkklmflclmgjeaaGreatDoorSe
import Derived.Laws.RangeAny
set_option linter.unusedVariables false
set_option linter.unusedSimpArgs false
set_option linter.unusedVariables false
set_option linter.unusedSimpArgs false
namespace Go.Proofs.YtkklmflclmgjeaaGreatDoor
open Go.RowKit Go.Shelf Go.Lib
attribute [local go_sem] Oper.semAt_some

theorem letterB_high {c : Nat} (h : 128 ≤ c) (f : Bool) : letterB f c = false := by
  unfold letterB
  rw [if_neg (by omega), decide_eq_false (by omega)]
theorem idxR_letters (s : ByteArray) : ∀ f pos, s.size ≤ pos + f → (¬ 0 ≤ idxR (fun c => !letterB false c) s f pos ↔ ∀ i (h : i < s.size), pos ≤ i → letterB false ((s[i]'h).toNat : Int) = true)
  | 0, pos, hf => by
    unfold idxR
    exact ⟨fun _ i h hp => by omega, fun _ => by omega⟩
  | f + 1, pos, hf => by
    unfold idxR
    by_cases hps : pos < s.size
    · rw [if_pos hps]
      by_cases ha : (s[pos]'hps).toNat < 128
      · rw [decode_ascii s pos hps ha]
        by_cases hl : letterB false ((s[pos]'hps).toNat : Int) = true
        · rw [if_neg (by simp [hl])]
          rw [idxR_letters s f (pos + 1) (by omega)]
          constructor
          · intro h i hi hp
            by_cases e : i = pos
            · subst e; exact hl
            · exact h i hi (by omega)
          · intro h i hi hp
            exact h i hi (by omega)
        · rw [if_pos (by simpa using hl)]
          constructor
          · intro h; omega
          · intro h; exact absurd (h pos hps (Nat.le_refl _)) hl
      · have hd := decode_high s pos hps (by omega)
        rw [if_pos (by rw [letterB_high hd.1]; rfl)]
        constructor
        · intro h; omega
        · intro h
          have := h pos hps (Nat.le_refl _)
          rw [letterB_high (by omega)] at this
          cases this
    · rw [if_neg hps]
      exact ⟨fun _ i h hp => by omega, fun _ => by omega⟩
theorem namedB_iff (s : ByteArray) : namedB s = true ↔ (1 ≤ s.size ∧ s.size ≤ 24) ∧ ∀ i (h : i < s.size), letterB (decide (i = 0)) ((s[i]'h).toNat : Int) = true := by
  unfold namedB runesFine
  split
  · rename_i h
    rw [Bool.and_eq_true, Bool.not_eq_true', decide_eq_false_iff_not, idxR_letters s s.size 0 (by omega)]
    constructor
    · rintro ⟨h1, h2⟩
      refine ⟨h, fun i hi => ?_⟩
      by_cases e : i = 0
      · subst e; simpa using h1
      · rw [decide_eq_false e]; exact h2 i hi (Nat.zero_le _)
    · rintro ⟨-, h2⟩
      refine ⟨by simpa using h2 0 (by omega), fun i hi _ => ?_⟩
      have := h2 i hi
      by_cases e : i = 0
      · subst e
        unfold letterB at this ⊢
        split <;> simp_all
      · rwa [decide_eq_false e] at this
  · rename_i h
    exact ⟨(fun e => by cases e), (fun e => absurd e.1 h)⟩
set_option maxHeartbeats 2000000 in
theorem tName_any (s : ByteArray) (hm : s.size ≤ 9223372036854775807) (w : World) : Calls Tryz.prog 99 #[.string s] w fun e w' => e = .returned (.bool (namedB s)) ∧ w = w' := by
  obtain ⟨R, hR⟩ : ∃ R, R = namedB s := ⟨_, rfl⟩
  rw [← hR]
  have HR : Hid (R = true ↔ (1 ≤ s.size ∧ s.size ≤ 24) ∧ ∀ i (h : i < s.size), letterB (decide (i = 0)) ((s[i]'h).toNat : Int) = true) := by rw [hR]; exact namedB_iff s
  clear hR
  have hmI : (s.size : Int) ≤ 9223372036854775807 := by omega
  go_enter Tryz.func99, Tryz.ntmps99
  go_wp2
  go_loopw [3] (fun i wr => ∃ k : Nat, k ≤ s.size ∧ i = .int .i64 k ∧ wr = w ∧ Hid (∀ j (h : j < s.size), j < k → letterB (decide (j = 0)) ((s[j]'h).toNat : Int) = true)) (fun i _ => s.size - (intOf i).toNat)
  case atStart => exact ⟨0, Nat.zero_le _, rfl, rfl, fun j h hj => by omega⟩
  case round =>
    obtain ⟨k, hk, rfl, hwr, HT⟩ := hrel
    have hwr' := hwr.symm
    clear hwr
    subst hwr'
    by_cases hlt : k < s.size
    · have hltI : (k : Int) < s.size := by omega
      have hkI : (0 : Int) ≤ k := by omega
      have HOK : Hid (letterB (decide (k = 0)) ((s[k]'hlt).toNat : Int) = true → ∀ j (h : j < s.size), j < k + 1 → letterB (decide (j = 0)) ((s[j]'h).toNat : Int) = true) := fun hl j h hj => by
        by_cases e : j = k
        · subst e; exact hl
        · exact HT.out j h (by omega)
      have HNO : Hid (letterB (decide (k = 0)) ((s[k]'hlt).toNat : Int) = false → R = false) := fun hl => by
        cases hR : R with
        | false => rfl
        | true => have := (HR.out.1 hR).2 k hlt; rw [hl] at this; cases this
      have hxx := UInt8.toNat_lt (s[k]'hlt)
      generalize hx : (s[k]'hlt).toNat = x at *
      by_cases hA : 97 ≤ x ∧ x ≤ 122
      · have hL : letterB (decide (k = 0)) (x : Int) = true := by unfold letterB; rw [if_neg (by omega), decide_eq_true (by omega)]
        have a1 : (97 : Int) ≤ x := by omega
        have a2 : (x : Int) ≤ 122 := by omega
        go_wp2
        go_roundw
        case rel => exact ⟨k + 1, by omega, by go_num, by first | rfl | trivial, HOK.out hL⟩
        case measure => simp [intOf]; omega
      · have hnl : (decide ((97 : Int) ≤ x) && decide ((x : Int) ≤ 122)) = false := by simp; omega
        by_cases hk0 : k = 0
        · subst hk0
          have hL : letterB (decide ((0 : Nat) = 0)) (x : Int) = false := by
            unfold letterB
            split
            · rfl
            · rw [decide_eq_false (by omega)]
          by_cases a1 : (97 : Int) ≤ x
          · have a2 : decide ((x : Int) ≤ 122) = false := by simp; omega
            go_wp2
            go_ret
            exact ⟨by first | rfl | (rw [HNO.out hL]; rfl), rfl⟩
          · have a2 : decide ((97 : Int) ≤ x) = false := by simp; omega
            go_wp2
            go_ret
            exact ⟨by first | rfl | (rw [HNO.out hL]; rfl), rfl⟩
        · have hk0b : ((k : Int) == 0) = false := by rw [beq_eq_false_iff_ne]; omega
          by_cases hU : x = 95
          · subst hU
            have hL : letterB (decide (k = 0)) ((95 : Nat) : Int) = true := by unfold letterB; rw [if_pos (.inl rfl), decide_eq_false hk0]; rfl
            go_wp2
            go_roundw
            case rel => exact ⟨k + 1, by omega, by go_num, by first | rfl | trivial, HOK.out hL⟩
            case measure => simp [intOf]; omega
          · have hUb : ((x : Int) != 95) = true := by rw [bne_iff_ne]; omega
            by_cases hD : 48 ≤ x ∧ x ≤ 57
            · have hL : letterB (decide (k = 0)) (x : Int) = true := by unfold letterB; rw [if_pos (.inr (by omega)), decide_eq_false hk0]; rfl
              have a1 : decide ((97 : Int) ≤ x) = false := by simp; omega
              have a3 : decide ((x : Int) < 48) = false := by simp; omega
              have a4 : decide ((57 : Int) < x) = false := by simp; omega
              go_wp2
              go_roundw
              case rel => exact ⟨k + 1, by omega, by go_num, by first | rfl | trivial, HOK.out hL⟩
              case measure => simp [intOf]; omega
            · have hL : letterB (decide (k = 0)) (x : Int) = false := by unfold letterB; rw [if_neg (by omega), decide_eq_false (by omega)]
              by_cases a1 : (97 : Int) ≤ x
              · have a2 : decide ((x : Int) ≤ 122) = false := by simp; omega
                have a3 : decide ((x : Int) < 48) = false := by simp; omega
                have a4 : (57 : Int) < x := by omega
                go_wp2
                go_ret
                exact ⟨by first | rfl | (rw [HNO.out hL]; rfl), rfl⟩
              · have a2 : decide ((97 : Int) ≤ x) = false := by simp; omega
                by_cases a3 : (x : Int) < 48
                · go_wp2
                  go_ret
                  exact ⟨by first | rfl | (rw [HNO.out hL]; rfl), rfl⟩
                · have a4 : (57 : Int) < x := by omega
                  have a5 : decide ((x : Int) < 48) = false := by simp; omega
                  go_wp2
                  go_ret
                  exact ⟨by first | rfl | (rw [HNO.out hL]; rfl), rfl⟩
    · obtain rfl : k = s.size := by omega
      have HT2 : Hid (∀ i (h : i < s.size), letterB (decide (i = 0)) ((s[i]'h).toNat : Int) = true) := fun i h => HT.out i h h
      clear HT hlt hk
      by_cases h1 : 1 ≤ s.size
      · have h1I : (1 : Int) ≤ s.size := by omega
        by_cases h2 : s.size ≤ 24
        · have h2I : (s.size : Int) ≤ 24 := by omega
          have hRt : R = true := HR.out.2 ⟨⟨h1, h2⟩, HT2.out⟩
          go_wp2
          go_ret
          exact ⟨by rw [hRt]; rfl, rfl⟩
        · have h2I : decide ((s.size : Int) ≤ 24) = false := by simp; omega
          have hRf : R = false := by
            cases hR : R with
            | false => rfl
            | true => exact absurd (HR.out.1 hR).1.2 h2
          go_wp2
          go_ret
          exact ⟨by rw [hRf]; rfl, rfl⟩
      · have h2I : decide ((1 : Int) ≤ s.size) = false := by simp; omega
        have h3I : decide (1 ≤ s.size) = false := by rw [decide_eq_false_iff_not]; exact h1
        have hRf : R = false := by
          cases hR : R with
          | false => rfl
          | true => exact absurd (HR.out.1 hR).1.1 h1
        go_wp2
        go_ret
        exact ⟨by rw [hRf]; rfl, rfl⟩
theorem toList_nil_iff (b : ByteArray) : b.toList = [] ↔ b = ⟨#[]⟩ := by
  rw [← bytes_eq_iff, show (⟨#[]⟩ : ByteArray).toList = [] by rw [ByteArray.toList_eq]]
theorem checkI_eq (k n u : Int) (b : ByteArray) : checkI ⟨k, n, u, b⟩ = if k < 0 ∨ 4 < k ∨ (k ≠ 1 ∧ k ≠ 3 ∧ n ≠ 0) ∨ (k ≠ 2 ∧ u ≠ 0) ∨ (k ≠ 4 ∧ b ≠ ⟨#[]⟩) ∨ (k = 3 ∧ n ≠ 0 ∧ n ≠ 1) then 2 else if 200 < b.size then 3 else 0 := by
  unfold checkI mayB Val.bare
  dsimp only
  have e : (k < 0 ∨ 4 < k ∨ (⟨k, n, u, b⟩ : Val) ≠ ⟨k, if k = 1 ∨ k = 3 then n else 0, if k = 2 then u else 0, if k = 4 then b else ⟨#[]⟩⟩ ∨ decide (k = 3 → n = 0 ∨ n = 1) = false) ↔ (k < 0 ∨ 4 < k ∨ (k ≠ 1 ∧ k ≠ 3 ∧ n ≠ 0) ∨ (k ≠ 2 ∧ u ≠ 0) ∨ (k ≠ 4 ∧ b ≠ ⟨#[]⟩) ∨ (k = 3 ∧ n ≠ 0 ∧ n ≠ 1)) := by
    by_cases h0 : k < 0
    · simp [h0]
    · by_cases h4 : 4 < k
      · simp [h4]
      · have hc : k = 0 ∨ k = 1 ∨ k = 2 ∨ k = 3 ∨ k = 4 := by omega
        by_cases hn : n = 0 <;> by_cases hu : u = 0 <;> by_cases hb : b = ⟨#[]⟩ <;> by_cases hn1 : n = 1 <;> rcases hc with rfl | rfl | rfl | rfl | rfl <;> simp [hn, hu, hb, hn1] <;> omega
  simp only [e]
set_option maxHeartbeats 4000000 in
theorem vrCheck_any (x : Val) (w : World) : Calls Tryz.prog 57 #[x.v] w fun e w' => e = .returned (.int .i64 (checkI x)) ∧ Bel w w' := by
  obtain ⟨k, n, u, b⟩ := x
  unfold Val.v
  dsimp only
  obtain ⟨R, hR⟩ : ∃ R, R = checkI ⟨k, n, u, b⟩ := ⟨_, rfl⟩
  rw [← hR]
  rw [checkI_eq] at hR
  have HR := Lib.hid hR
  clear hR
  by_cases hk0 : k < 0
  · rw [if_pos (.inl hk0)] at HR
    go_enter Tryz.func57, Tryz.ntmps57
    go_wp2
    go_ret
    exact ⟨by rw [HR.out]; rfl, by (repeat (first | exact Below.refl _ _ | assumption | exact Bel.refl _ | refine Bel.alloc ?_ _ | refine Bel.drew ?_ | refine Bel.drewN ?_ _ | refine Bel.then_ ?_ (by assumption) | refine Bel.setCell ?_ (by first | (simp; done) | (simp; omega)) _))⟩
  · by_cases hk4 : 4 < k
    · rw [if_pos (.inr (.inl hk4))] at HR
      have hk0b : decide (k < 0) = false := by simp; omega
      go_enter Tryz.func57, Tryz.ntmps57
      go_wp2
      go_ret
      exact ⟨by rw [HR.out]; rfl, by (repeat (first | exact Below.refl _ _ | assumption | exact Bel.refl _ | refine Bel.alloc ?_ _ | refine Bel.drew ?_ | refine Bel.drewN ?_ _ | refine Bel.then_ ?_ (by assumption) | refine Bel.setCell ?_ (by first | (simp; done) | (simp; omega)) _))⟩
    · have hc : k = 0 ∨ k = 1 ∨ k = 2 ∨ k = 3 ∨ k = 4 := by omega
      clear hk0 hk4
      rcases hc with rfl | rfl | rfl | rfl | rfl
      all_goals
        go_enter Tryz.func57, Tryz.ntmps57
        go_wp2
        all_goals
          have e := HR.out
          clear HR
          go_ret
          refine ⟨?_, by (repeat (first | exact Below.refl _ _ | assumption | exact Bel.refl _ | refine Bel.alloc ?_ _ | refine Bel.drew ?_ | refine Bel.drewN ?_ _ | refine Bel.then_ ?_ (by assumption) | refine Bel.setCell ?_ (by first | (simp; done) | (simp; omega)) _))⟩
          show Ending.returned (Value.int .i64 _) = _
          try simp only [toList_nil_iff] at *
          rw [e]
          simp_all
          try omega
end Go.Proofs.YtkklmflclmgjeaaGreatDoor
