/-
  Schema: lists of lists put behind one another (slices.Grow, Concat, Clone), the document's Sets.
-/
import Derived.Test.YtkklmflclmgjeaaGreatDoorSl
import Derived.Test.YtkklmflclmgjeaaGreatDoorSp
import Derived.Lib.AppendZerosOnto
set_option linter.unusedVariables false
set_option linter.unusedSimpArgs false
set_option linter.unusedVariables false
set_option linter.unusedSimpArgs false
namespace Go.Proofs.YtkklmflclmgjeaaGreatDoor
open Go.RowKit Go.Shelf Go.Lib
attribute [local go_sem] Oper.semAt_some

/-- Values that read as lists of numbers. -/
def UsAt (w : World) (us : List Value) (L : List (List Int)) : Prop := us.length = L.length ∧ ∀ (i : Nat) u l, us[i]? = some u → L[i]? = some l → IntsAt w u l
theorem UsAt.bel {w w' : World} {us : List Value} {L : List (List Int)} (h : UsAt w us L) (hb : Bel w w') : UsAt w' us L := ⟨h.1, fun i u l hu hl => (h.2 i u l hu hl).bel hb⟩
theorem UsAt.nil (w : World) : UsAt w [] [] := ⟨rfl, fun i u l hu => by simp at hu⟩
theorem UsAt.append {w : World} {us vs : List Value} {L M : List (List Int)} (h : UsAt w us L) (k : UsAt w vs M) : UsAt w (us ++ vs) (L ++ M) := by
  refine ⟨by rw [List.length_append, List.length_append, h.1, k.1], fun i u l hu hl => ?_⟩
  by_cases hi : i < L.length
  · rw [List.getElem?_append_left (by rw [h.1]; exact hi)] at hu
    rw [List.getElem?_append_left hi] at hl
    exact h.2 i u l hu hl
  · rw [List.getElem?_append_right (by rw [h.1]; omega)] at hu
    rw [List.getElem?_append_right (by omega)] at hl
    rw [h.1] at hu
    exact k.2 _ u l hu hl
theorem UsAt.one {w : World} {u : Value} {l : List Int} (h : IntsAt w u l) : UsAt w [u] [l] := ⟨rfl, fun i u' l' hu hl => by
  have hi : i = 0 := by have := (List.getElem?_eq_some_iff.1 hu).1; simp at this; omega
  subst hi
  simp at hu hl
  subst hu hl
  exact h⟩
theorem UsAt.one_cell {w : World} {us : List Value} {L : List (List Int)} (h : UsAt w us L) : ∀ u ∈ us, u.oneCell' = true := fun u hu => by
  obtain ⟨i, hi⟩ := List.mem_iff_getElem?.1 hu
  have hlt := (List.getElem?_eq_some_iff.1 hi).1
  obtain ⟨l, hl⟩ : ∃ l, L[i]? = some l := ⟨_, List.getElem?_eq_getElem (by rw [← h.1]; exact hlt)⟩
  obtain ⟨A, c, rfl, -⟩ := h.2 i u l hi hl
  rfl
theorem ListsAt.vals {w : World} {A : Option Addr} {c : Nat} {L : List (List Int)} (h : ListsAt w (.slice A L.length c) L) : ∃ us, UsAt w us L ∧ Reads w w.heap.size 1 A L.length us := by
  obtain ⟨A', c', e, hc, hm, hi0⟩ := h
  injection e with e1 e2 e3
  subst e1 e3
  by_cases h0 : 0 < L.length
  · obtain ⟨b, off, rfl, hi⟩ := hi0 h0
    have hlen : ∀ n, n ≤ L.length → ∃ us : List Value, us.length = n ∧ ∀ i u l, us[i]? = some u → L[i]? = some l → w.cell? ⟨b, off + i, none⟩ = some u ∧ IntsAt w u l := by
      intro n
      induction n with
      | zero => exact fun _ => ⟨[], rfl, fun i u l hu => by simp at hu⟩
      | succ n ih =>
        intro hn
        obtain ⟨us, hl, hus⟩ := ih (by omega)
        obtain ⟨l, hll⟩ : ∃ l, L[n]? = some l := ⟨_, List.getElem?_eq_getElem (by omega)⟩
        obtain ⟨u, hu, hul⟩ := hi n l hll
        refine ⟨us ++ [u], by simp [hl], fun i u' l' hu' hl' => ?_⟩
        by_cases hin : i < n
        · rw [List.getElem?_append_left (by omega)] at hu'
          exact hus i u' l' hu' hl'
        · have hi0 : i = n := by have := (List.getElem?_eq_some_iff.1 hu').1; simp at this; omega
          subst hi0
          rw [List.getElem?_append_right (by omega), hl, Nat.sub_self] at hu'
          simp at hu'
          subst hu'
          rw [hll] at hl'
          cases hl'
          exact ⟨hu, hul⟩
    obtain ⟨us, hl, hus⟩ := hlen L.length (Nat.le_refl _)
    refine ⟨us, ⟨hl, fun i u l hu hll => (hus i u l hu hll).2⟩, by rw [hl, Nat.mul_one], fun _ => ⟨_, rfl, ?_, fun j u hu => ?_⟩⟩
    · obtain ⟨l, hll⟩ : ∃ l, L[0]? = some l := ⟨_, List.getElem?_eq_getElem h0⟩
      obtain ⟨u, hu, -⟩ := hi 0 l hll
      exact World.block_lt_of_cell? (w := w) (a := ⟨b, off + 0, none⟩) hu
    · obtain ⟨l, hll⟩ : ∃ l, L[j]? = some l := ⟨_, List.getElem?_eq_getElem (by have := (List.getElem?_eq_some_iff.1 hu).1; omega)⟩
      have := (hus j u l hu hll).1
      unfold Addr.add
      by_cases hj : j = 0
      · subst hj; simpa using this
      · simpa [hj] using this
  · have hL : L = [] := List.eq_nil_of_length_eq_zero (by omega)
    subst hL
    exact ⟨[], UsAt.nil w, rfl, fun h => by simp at h⟩
theorem ListsAt.of_own {w : World} {b n : Nat} {v : Value} {us : List Value} {L : List (List Int)} (h : w.ownsRow b 23 1 v n us) (hu : UsAt w us L) : ListsAt w v L ∧ n = L.length := by
  have hn : n = L.length := by have := h.1; rw [Nat.mul_one] at this; rw [← this, hu.1]
  subst hn
  refine ⟨?_, rfl⟩
  rcases h.2 with ⟨rfl, h0⟩ | ⟨g, cap, cur, rfl, hbg, hh, hnc, hcm, hcs, htk⟩
  · exact ⟨none, 0, by rw [h0], by omega, Nat.zero_le _, fun h => by omega⟩
  · refine ⟨some ⟨g, 0, none⟩, cap, rfl, hnc, hcm, fun hn => ⟨g, 0, rfl, fun i l hl => ?_⟩⟩
    have hlt := (List.getElem?_eq_some_iff.1 hl).1
    obtain ⟨u, huu⟩ : ∃ u, us[i]? = some u := ⟨_, List.getElem?_eq_getElem (by rw [hu.1]; exact hlt)⟩
    refine ⟨u, ?_, hu.2 i u l huu hl⟩
    have := h.cells (g := g) rfl i u huu
    unfold Addr.add at this
    by_cases hj : i = 0
    · subst hj; simpa using this
    · simpa [hj] using this
theorem infoIs : (Tryz.prog.info? 23).map (fun i => (i.zero, i.size, i.bytes)) = some (some (.slice none 0 0), 1, 24) := by kernel_rfl
theorem infoIn : (Tryz.prog.info? 3).map (fun i => (i.zero, i.size, i.bytes)) = some (some (.int .i64 0), 1, 8) := by kernel_rfl
set_option maxRecDepth 100000 in
set_option maxHeartbeats 2000000 in
theorem slGrow_nil (n : Nat) (hn : 1 ≤ n) (hm : n ≤ 1000) (w : World) : Calls Tryz.prog 108 #[.slice none 0 0, .int .i64 n] w fun e w' => ∃ A c, e = .returned (.slice A 0 c) ∧ w'.ownsRow w.heap.size 23 1 (.slice A 0 c) 0 [] ∧ Bel w w' := by
  obtain ⟨i0, hi0, hz0, hz1, hz2⟩ := info_parts infoIs
  have h := Lib.run_append_grow_zeros (P := Tryz.prog) w 24 3 24 23 i0 (.slice none 0 0) .i64 .i64 Tryz.underlying24 Tryz.underlying3 hi0 hz0 none 0 0 []
    (by rw [hz1]; exact run_firstCells_none w.drew 1 0 0 0) n (by omega) (by omega) (by omega) (by omega) (by rw [hz2]; omega) (by rw [hz2]; exact growslice_fits (by omega) (by omega))
  rw [Nat.zero_add] at h
  have hG := grownCap_ge w n 0 23
  have hG2 := grownCap_le_maxLen w n 0 23 (by unfold maxLen; omega)
  have hGI : (grownCap w n 0 23 : Int) ≤ 9223372036854775807 := by unfold maxLen at hG2; omega
  have HOWN : Hid (∀ (cs : Array Value), cs.size = grownCap w n 0 23 * 1 → (w.drew.alloc (.cells cs 23)).ownsRow w.heap.size 23 1 (.slice (some ⟨w.heap.size, 0, none⟩) 0 (grownCap w n 0 23)) 0 []) := fun cs hcs => by
    have := World.ownsRow_made (base := w.heap.size) (e := 23) (size := 1) w.drew cs (grownCap w n 0 23) (Nat.le_refl _) hG2 hcs
    exact this
  have hsz : ((([] : List Value).toArray ++ Builtin.zeroCells (Value.slice none 0 0).cells n ++ Builtin.zeroCells (Value.slice none 0 0).cells (grownCap w n 0 23 - n))).size = grownCap w n 0 23 * 1 := by
    simp only [Array.size_append, size_zeroCells]
    show 0 + n * 1 + (grownCap w n 0 23 - n) * 1 = _
    omega
  have HOW := Lib.hid (HOWN.out _ hsz)
  have hnI : (0 : Int) < n := by omega
  have hn1 : (n : Int) ≤ 1000 := by omega
  generalize ([] : List Value).toArray ++ Builtin.zeroCells (Value.slice none 0 0).cells n ++ Builtin.zeroCells (Value.slice none 0 0).cells (grownCap w n 0 23 - n) = cs at *
  generalize grownCap w n 0 23 = G at *
  clear hsz HOWN
  go_enter Tryz.func108, Tryz.ntmps108
  go_wp2_with (at_builtin; refine Lib.wpList_append_run _ rfl _ _ _ _ rfl _ _ rfl rfl _ _ h ?_)
  go_ret
  exact ⟨_, _, rfl, HOW.out, (Bel.refl w).drew.alloc _⟩
end Go.Proofs.YtkklmflclmgjeaaGreatDoor
