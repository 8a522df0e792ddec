/-
  SchemaHolds, its plain law: what fits a column fits a greater one; a row fits just if each value does; its key is there, and not null.
-/
import Derived.Test.YtkklmflclmgjeaaGreatDoorSp
import Derived.Test.YtkklmflclmgjeaaGreatDoorSo
set_option linter.unusedVariables false
set_option linter.unusedSimpArgs false
set_option linter.unusedVariables false
set_option linter.unusedSimpArgs false
namespace Go.Proofs.YtkklmflclmgjeaaGreatDoor
open Go.RowKit

def wideI (z : Int) : Int := ([1, 2, 4, 4, 8, 8, 8, 8, 8] : List Int).getD (min 8 (max 0 z)).toNat 0

theorem fits_parts {c : Col} {x : Val} (h : fitsI c x = 0) : rightB c = true ∧ checkI x = 0 ∧ (x.k = 0 ∧ c.null = true ∨ x.k ≠ 0 ∧ x.k = c.t ∧ fitB c.t c.z x = true) := by
  unfold fitsI at h
  cases hr : rightB c
  · rw [if_pos hr] at h; cases h
  · rw [if_neg (by simp [hr])] at h
    by_cases hk : checkI x = 0
    · rw [if_neg (by simp [hk])] at h
      refine ⟨rfl, hk, ?_⟩
      by_cases h0 : x.k = 0
      · rw [if_pos h0] at h
        cases hn : c.null
        · simp [hn] at h
        · exact .inl ⟨h0, rfl⟩
      · rw [if_neg h0] at h
        by_cases ht : x.k = c.t
        · rw [if_neg (by simp [ht])] at h
          cases hf : fitB c.t c.z x
          · simp [hf] at h
          · exact .inr ⟨h0, ht, rfl⟩
        · rw [if_pos ht] at h; cases h
    · rw [if_pos hk] at h; exact absurd h hk
def greatZ (t z : Int) : Int := if t = 4 then 200 else if t = 3 then z else wideI z
def Col.great (c : Col) : Col := { c with null := true, z := greatZ c.t c.z }
theorem size_great {t z : Int} (ht : 1 ≤ t ∧ t ≤ 4) (h : sizeB t z = true) : sizeB t (greatZ t z) = true := by
  have hcs : t = 1 ∨ t = 2 ∨ t = 3 ∨ t = 4 := by omega
  rcases hcs with rfl | rfl | rfl | rfl
  · have := of_decide_eq_true h
    rcases this with rfl | rfl | rfl | rfl <;> decide
  · have := of_decide_eq_true h
    rcases this with rfl | rfl | rfl | rfl <;> decide
  · exact h
  · rfl
theorem fit_great {t z : Int} {x : Val} (ht : 1 ≤ t ∧ t ≤ 4) (h : sizeB t z = true) (hf : fitB t z x = true) : fitB t (greatZ t z) x = true := by
  have hcs : t = 1 ∨ t = 2 ∨ t = 3 ∨ t = 4 := by omega
  rcases hcs with rfl | rfl | rfl | rfl
  · have hz := of_decide_eq_true h
    have hf := of_decide_eq_true hf
    refine decide_eq_true ?_
    rcases hz with rfl | rfl | rfl | rfl
    · have e : greatZ 1 1 = 2 := by decide
      rw [e]; have l1 : leastI 1 = -128 := rfl; have l2 : leastI 2 = -32768 := rfl; have l4 : leastI 4 = -2147483648 := rfl; have l8 : leastI 8 = -9223372036854775808 := rfl; omega
    · have e : greatZ 1 2 = 4 := by decide
      rw [e]; have l1 : leastI 1 = -128 := rfl; have l2 : leastI 2 = -32768 := rfl; have l4 : leastI 4 = -2147483648 := rfl; have l8 : leastI 8 = -9223372036854775808 := rfl; omega
    · have e : greatZ 1 4 = 8 := by decide
      rw [e]; have l1 : leastI 1 = -128 := rfl; have l2 : leastI 2 = -32768 := rfl; have l4 : leastI 4 = -2147483648 := rfl; have l8 : leastI 8 = -9223372036854775808 := rfl; omega
    · have e : greatZ 1 8 = 8 := by decide
      rw [e]; exact hf
  · have hz := of_decide_eq_true h
    have hf := of_decide_eq_true hf
    refine decide_eq_true ?_
    rcases hz with rfl | rfl | rfl | rfl
    · have e : greatZ 2 1 = 2 := by decide
      rw [e]; have l1 : mostI 1 = 255 := rfl; have l2 : mostI 2 = 65535 := rfl; have l4 : mostI 4 = 4294967295 := rfl; have l8 : mostI 8 = 18446744073709551615 := rfl; omega
    · have e : greatZ 2 2 = 4 := by decide
      rw [e]; have l1 : mostI 1 = 255 := rfl; have l2 : mostI 2 = 65535 := rfl; have l4 : mostI 4 = 4294967295 := rfl; have l8 : mostI 8 = 18446744073709551615 := rfl; omega
    · have e : greatZ 2 4 = 8 := by decide
      rw [e]; have l1 : mostI 1 = 255 := rfl; have l2 : mostI 2 = 65535 := rfl; have l4 : mostI 4 = 4294967295 := rfl; have l8 : mostI 8 = 18446744073709551615 := rfl; omega
    · have e : greatZ 2 8 = 8 := by decide
      rw [e]; exact hf
  · rfl
  · have hz := of_decide_eq_true h
    have hf := of_decide_eq_true hf
    refine decide_eq_true ?_
    show (x.b.size : Int) ≤ 200
    omega
theorem fits_great {c : Col} {x : Val} (h : fitsI c x = 0) : fitsI c.great x = 0 := by
  obtain ⟨hr, hk, hc⟩ := fits_parts h
  unfold rightB at hr
  rw [Bool.and_eq_true, Bool.and_eq_true] at hr
  obtain ⟨⟨h1, h2⟩, h3⟩ := hr
  have ht := of_decide_eq_true h1
  have hr2 : rightB c.great = true := by
    unfold rightB
    rw [Bool.and_eq_true, Bool.and_eq_true]
    exact ⟨⟨h1, h2⟩, size_great ht h3⟩
  unfold fitsI
  rw [if_neg (by simp [hr2]), if_neg (by simp [hk])]
  rcases hc with ⟨h0, -⟩ | ⟨h0, he, hf⟩
  · rw [if_pos h0]; rfl
  · have hf2 : fitB c.great.t c.great.z x = true := fit_great ht h3 hf
    have he2 : x.k = c.great.t := he
    rw [if_neg h0, if_neg (by simp [← he2]), if_neg (by simp [hf2])]
/-- Do the first k values fit? -/
def allFit (cols : List Col) (l : List Val) (k : Nat) : Bool := decide (l.length = cols.length) && (List.range k).all (fun i => decide (fitAt cols l i = 0))
theorem allFit_zero (cols : List Col) (l : List Val) : allFit cols l 0 = decide (l.length = cols.length) := by unfold allFit; simp
theorem allFit_succ (cols : List Col) (l : List Val) (k : Nat) : allFit cols l (k + 1) = (allFit cols l k && decide (fitAt cols l k = 0)) := by
  unfold allFit
  rw [List.range_succ, List.all_append]
  simp [Bool.and_assoc]
theorem fitAt_at {cols : List Col} {l : List Val} {k : Nat} {c : Col} {x : Val} (hc : cols[k]? = some c) (hx : l[k]? = some x) : fitAt cols l k = fitsI c x := by
  unfold fitAt
  rw [hc, hx]
theorem firstNZ_zero (f : Nat → Int) : ∀ n i, firstNZ f i n = 0 → ∀ j, i ≤ j → j < i + n → f j = 0
  | 0, i, h, j, h1, h2 => by omega
  | n + 1, i, h, j, h1, h2 => by
    unfold firstNZ at h
    by_cases e : f i = 0
    · rw [if_neg (by simp [e])] at h
      by_cases e2 : j = i
      · rw [e2]; exact e
      · exact firstNZ_zero f n (i + 1) h j (by omega) (by omega)
    · rw [if_pos e] at h; exact absurd h e
theorem row_all {cols : List Col} {key : List Int} {uq : List (List Int)} {l : List Val} (hr : rightS cols key uq = true) : (rowAll cols key uq l == 0) = allFit cols l (min l.length cols.length) := by
  unfold rowAll
  rw [if_pos hr]
  unfold rowI allFit
  by_cases hl : l.length = cols.length
  · rw [if_neg (by simp [hl]), decide_eq_true hl, Bool.true_and, hl, Nat.min_self]
    cases ha : (List.range cols.length).all fun i => decide (fitAt cols l i = 0)
    · rw [beq_eq_false_iff_ne]
      intro h
      have := firstNZ_zero _ _ _ h
      rw [List.all_eq_false] at ha
      obtain ⟨i, hi, hn⟩ := ha
      exact hn (decide_eq_true (this i (by omega) (by have := List.mem_range.1 hi; omega)))
    · rw [beq_iff_eq]
      refine firstNZ_none _ _ _ fun j h1 h2 => ?_
      exact of_decide_eq_true (List.all_eq_true.1 ha j (List.mem_range.2 (by omega)))
  · rw [if_pos hl, decide_eq_false hl, Bool.false_and]; rfl
theorem pick_fine {row : List Val} : ∀ {key : List Int}, (∀ i ∈ key, ∃ x, getV row i = some x ∧ x.k ≠ 0) → ∃ l, pickL row key = some l ∧ l.length = key.length ∧ ∀ x ∈ l, x.k ≠ 0
  | [], h => ⟨[], rfl, rfl, fun x hx => by cases hx⟩
  | i :: key, h => by
    obtain ⟨x, hx, h0⟩ := h i List.mem_cons_self
    obtain ⟨l, hl, hn, hk⟩ := pick_fine (key := key) (fun j hj => h j (List.mem_cons_of_mem _ hj))
    refine ⟨x :: l, by rw [pickL_cons, hx, hl], by simp [hn], fun y hy => ?_⟩
    rcases List.mem_cons.1 hy with rfl | hy
    · exact h0
    · exact hk y hy
theorem key_fine {cols : List Col} {key : List Int} {uq : List (List Int)} {l : List Val} (hr : rightS cols key uq = true) (ha : allFit cols l (min l.length cols.length) = true) :
    (pickR l key).2 = 0 ∧ (pickR l key).1.length = key.length ∧ ∀ x ∈ (pickR l key).1, x.k ≠ 0 := by
  unfold allFit at ha
  rw [Bool.and_eq_true] at ha
  obtain ⟨hl, ha⟩ := ha
  have hl := of_decide_eq_true hl
  rw [hl, Nat.min_self] at ha
  unfold rightS at hr
  simp only [Bool.and_eq_true, Bool.not_eq_true'] at hr
  obtain ⟨hd, hs, hc, hn, -⟩ := hr
  have hin := setB_in hs
  obtain ⟨r, h1, h2, h3⟩ := pick_fine (row := l) (key := key) (fun i hi => by
    obtain ⟨h0, hlt⟩ := hin i hi
    have hlc : i.toNat < cols.length := by omega
    obtain ⟨c, hcc⟩ : ∃ c, cols[i.toNat]? = some c := ⟨_, List.getElem?_eq_getElem hlc⟩
    obtain ⟨x, hx⟩ : ∃ x, l[i.toNat]? = some x := ⟨_, List.getElem?_eq_getElem (by omega)⟩
    refine ⟨x, by unfold getV; rw [if_pos h0]; exact hx, fun hk0 => ?_⟩
    have hf := of_decide_eq_true (List.all_eq_true.1 ha i.toNat (List.mem_range.2 hlc))
    rw [fitAt_at hcc hx] at hf
    obtain ⟨-, -, h | h⟩ := fits_parts hf
    · rw [List.any_eq_false] at hn
      have := hn i hi
      unfold nullAt at this
      rw [hcc] at this
      exact this h.2
    · exact h.1 hk0)
  unfold pickR
  rw [h1]
  exact ⟨rfl, h2, h3⟩
end Go.Proofs.YtkklmflclmgjeaaGreatDoor
