/-
  Schema: slices.Clone; the document's Sets, Place.
-/
import Derived.Test.YtkklmflclmgjeaaGreatDoorVd
set_option linter.unusedVariables false
set_option linter.unusedSimpArgs false
set_option linter.unusedVariables false
set_option linter.unusedSimpArgs false
namespace Go.Proofs.YtkklmflclmgjeaaGreatDoor
open Go.RowKit Go.Shelf Go.Lib
attribute [local go_sem] Oper.semAt_some

def ivals (l : List Int) : List Value := l.map (.int .i64)
theorem IntsAt.reads {w : World} {A : Option Addr} {c : Nat} {l : List Int} (h : IntsAt w (.slice A l.length c) l) : Reads w w.heap.size 1 A l.length (ivals l) := by
  obtain ⟨A', c', e, hc, hm, hi0⟩ := h
  injection e with e1 e2 e3
  subst e1 e3
  refine ⟨by simp [ivals], fun hn => ?_⟩
  obtain ⟨b, off, rfl, hi⟩ := hi0 hn
  refine ⟨_, rfl, World.block_lt_of_cell? (w := w) (a := ⟨b, off + 0, none⟩) (hi 0 (l[0]'hn) (List.getElem?_eq_getElem hn)), fun j u hu => ?_⟩
  have hj : j < l.length := by have := (List.getElem?_eq_some_iff.1 hu).1; simpa [ivals] using this
  have hu2 : u = .int .i64 (l[j]'hj) := by simp [ivals, List.getElem?_eq_getElem hj] at hu; exact hu.symm
  subst hu2
  rw [Addr.add_lit]
  exact hi j _ (List.getElem?_eq_getElem hj)
theorem IntsAt.of_own {w : World} {b n : Nat} {v : Value} {l : List Int} (h : w.ownsRow b 3 1 v n (ivals l)) : IntsAt w v l := by
  have hn : n = l.length := by have := h.1; rw [Nat.mul_one] at this; rw [← this]; simp [ivals]
  subst hn
  rcases h.2 with ⟨rfl, h0⟩ | ⟨g, cap, cur, rfl, hbg, hh, hnc, hcm, hcs, htk⟩
  · exact ⟨none, 0, by rw [h0], by omega, Nat.zero_le _, fun h => by omega⟩
  · refine ⟨some ⟨g, 0, none⟩, cap, rfl, hnc, hcm, fun hn => ⟨g, 0, rfl, fun i x hx => ?_⟩⟩
    have := h.cells (g := g) rfl i (.int .i64 x) (by simp [ivals, hx])
    rw [Addr.add_lit] at this
    exact this
theorem ivals_one (l : List Int) : ∀ u ∈ ivals l, u.oneCell' = true := fun u hu => by
  obtain ⟨x, -, rfl⟩ := List.mem_map.1 hu
  rfl
set_option maxRecDepth 100000 in
set_option maxHeartbeats 4000000 in
theorem slCloneInt_any (v : Value) (l : List Int) (w : World) (h : IntsAt w v l) (hm : l.length ≤ 1000) : Calls Tryz.prog 68 #[v] w fun e w' => ∃ u, e = .returned u ∧ IntsAt w' u l ∧ Bel w w' := by
  have h' := h
  obtain ⟨A, c, rfl, hc, hmx, hi⟩ := h'
  have q := fun (W : World) (a : Option Addr) (n c n' c' : Nat) => Lib.run_eql_slice_nil (P := Tryz.prog) W 23 3 a n c n' c' Tryz.underlying23
  obtain ⟨i0, hi0, hz0, hz1, hz2⟩ := info_parts infoIn
  have hp1 : (0 : Nat) < 1 := by omega
  have hal : Bel w (w.alloc (.cells #[] 3)) := (Bel.refl w).alloc _
  have HX := Lib.hid ((h.bel hal).reads.keep (w' := w.alloc (.cells #[] 3)) (fun _ _ => rfl))
  have HOW : Hid ((w.alloc (.cells #[] 3)).ownsRow w.heap.size 3 1 (.slice (some ⟨w.heap.size, 0, none⟩) 0 0) 0 []) := World.ownsRow_made w #[] 0 (Nat.le_refl _) (Nat.zero_le _) rfl
  have h63 : 0 + l.length ≤ maxLen := by unfold maxLen; omega
  have hby : (0 + l.length) * 8 ≤ 140737488355328 := by omega
  have h1c := ivals_one l
  have HS : w.heap.size ≤ (w.alloc (.cells #[] 3)).heap.size := hal.size
  have HAL := Lib.hid hal
  have hlI : (l.length : Int) ≤ 1000 := by omega
  clear h hc hmx hal
  cases A with
  | none =>
    have hl0 : l = [] := by
      rcases Nat.eq_zero_or_pos l.length with h0 | h0
      · exact List.eq_nil_of_length_eq_zero h0
      · obtain ⟨b, off, e, -⟩ := hi h0; cases e
    clear hi
    go_enter Tryz.func68, Tryz.ntmps68
    go_wp2
    go_ret
    exact ⟨_, rfl, ⟨none, 0, by rw [hl0]; rfl, by rw [hl0]; exact Nat.le_refl _, Nat.zero_le _, fun h => by rw [hl0] at h; simp at h⟩, Bel.refl w⟩
  | some a =>
    clear hi
    go_enter Tryz.func68, Tryz.ntmps68
    go_wp2_with (at_builtin; refine wpList_append_any _ rfl _ _ _ rfl w.heap.size 3 i0 _ 1 8 Tryz.underlying23 hi0 hz0 hz1 hz2 rfl hp1 _ 0 [] rfl HOW.out _ (some a) l.length c (ivals l) rfl HX.out h1c h63 hby HS ?_; intro v9 w9 hown9 hg9 hat9; rw [Nat.zero_add] at hown9; obtain ⟨A9, c9, rfl⟩ := row_any hown9; have hb9 : Bel w w9 := Below.grown HAL.out hg9 HS (fun j e => (HOW.out.lt j e).1); have HN9 : Hid (Bel w w9 ∧ IntsAt w9 (.slice A9 l.length c9) l) := ⟨hb9, IntsAt.of_own hown9⟩; clear hown9 hg9 hat9 hb9)
    go_ret
    exact ⟨_, rfl, HN9.out.2, HN9.out.1⟩
def setsL (cols : List Col) (key : List Int) (uq : List (List Int)) : List (List Int) := if rightS cols key uq = true then key :: uq else []
set_option maxRecDepth 100000 in
set_option maxHeartbeats 4000000 in
theorem tSets_any (vc vk vu : Value) (cols : List Col) (key : List Int) (uq : List (List Int)) (w : World) (hc : ColsAt w vc cols) (hk : IntsAt w vk key) (hu : ListsAt w vu uq) (hnm : ∀ c ∈ cols, c.name.size ≤ 9223372036854775807) (hm : uq.length ≤ 900) :
    Calls Tryz.prog 28 #[.agg #[vc, vk, vu]] w fun e w' => ∃ v, e = .returned v ∧ ListsAt w' v (setsL cols key uq) ∧ Bel w w' := by
  have HT := Lib.hid (fun V (hb : Bel w V) => tRight_any vc vk vu cols key uq V (hc.bel hb) (hk.bel hb) (hu.bel hb) hnm)
  have hb0 : Bel w (w.alloc (.cells #[vc, vk, vu] 26)) := (Bel.refl w).alloc _
  unfold setsL
  have HK := Lib.hid hk
  have HU := Lib.hid hu
  obtain ⟨Ak, ck, rfl, -⟩ := hk
  obtain ⟨Au, cu, rfl, -⟩ := hu
  clear hc hnm
  generalize rightS cols key uq = R at *
  cases R
  · go_enter Tryz.func28, Tryz.ntmps28
    go_wp2_with fail
    refine (HT.out _ hb0).mono ?_
    rintro e w4 ⟨rfl, hb4⟩
    go_wp2_with fail
    go_ret
    exact ⟨_, rfl, ⟨none, 0, rfl, Nat.le_refl _, Nat.zero_le _, fun h => by simp at h⟩, hb0.then_ hb4⟩
  · go_enter Tryz.func28, Tryz.ntmps28
    go_wp2_with fail
    refine (HT.out _ hb0).mono ?_
    rintro e w4 ⟨rfl, hb4⟩
    have c1 : w4.cell? ⟨w.heap.size, 1, none⟩ = some (.slice Ak key.length ck) := hb4.c (by go_simp)
    have c2 : w4.cell? ⟨w.heap.size, 2, none⟩ = some (.slice Au uq.length cu) := hb4.c (by go_simp)
    have hbw := hb0.then_ hb4
    have hlt4 : w.heap.size < w4.heap.size := by have := hb4.size; simp at this; omega
    obtain ⟨i0, hi0, hz0, hz1, hz2⟩ := info_parts infoIs
    have hp1 : (0 : Nat) < 1 := by omega
    have hal : Bel w4 (w4.alloc (.cells #[.slice Ak key.length ck] 23)) := (Bel.refl w4).alloc _
    obtain ⟨us, hus, hur⟩ := HU.out.vals
    have HX := Lib.hid (hur.keep (w' := w4.alloc (.cells #[.slice Ak key.length ck] 23)) (fun p hp => Below.cell (hbw.then_ hal) hp))
    have HUS := Lib.hid (UsAt.append (UsAt.one HK.out) hus)
    have HOW := Lib.hid (own_one w4 (.slice Ak key.length ck) 23)
    have h63 : 1 + uq.length ≤ maxLen := by unfold maxLen; omega
    have hby : (1 + uq.length) * 24 ≤ 140737488355328 := by omega
    have h1c := hus.one_cell
    have HS : w4.heap.size ≤ (w4.alloc (.cells #[.slice Ak key.length ck] 23)).heap.size := hal.size
    have HAL := Lib.hid hal
    have hlI : (uq.length : Int) ≤ 900 := by omega
    have HBW := Lib.hid hbw
    clear hus hur hal hbw hb4 hb0
    go_wp2_with (at_builtin; refine wpList_append_any _ rfl _ _ _ rfl w4.heap.size 23 i0 _ 1 24 Tryz.underlying24 hi0 hz0 hz1 hz2 rfl hp1 _ 1 _ rfl HOW.out _ Au uq.length cu us rfl HX.out h1c h63 hby HS ?_; intro v9 w9 hown9 hg9 hat9; obtain ⟨A9, c9, rfl⟩ := row_any hown9; have hb9 : Bel w4 w9 := Below.grown HAL.out hg9 HS (fun j e => (HOW.out.lt j e).1); have HN9 := Lib.hid (And.intro (HBW.out.then_ hb9) hown9); clear hown9 hg9 hat9 hb9)
    go_ret
    exact ⟨_, rfl, (ListsAt.of_own (L := key :: uq) HN9.out.2 (HUS.out.bel HN9.out.1)).1, HN9.out.1⟩
set_option maxRecDepth 100000 in
set_option maxHeartbeats 4000000 in
theorem tPlace_any (vc vk vu : Value) (cols : List Col) (nm : ByteArray) (w : World) (h : ColsAt w vc cols) : Calls Tryz.prog 32 #[.agg #[vc, vk, vu], .string nm] w fun e w' => (∃ i : Int, e = .returned (.int .i64 i) ∧ PlaceIs cols nm i) ∧ Bel w w' := by
  obtain ⟨A, c, rfl, hcl, hm, hr⟩ := h
  have hlI : (cols.length : Int) ≤ 9223372036854775807 := by unfold maxLen at hm; omega
  have HR := Lib.hid hr
  have hb0 : Bel w (w.alloc (.cells #[.slice A cols.length c, vk, vu] 26)) := (Bel.refl w).alloc _
  have HB0 := Lib.hid hb0
  clear hr hm hb0
  go_enter Tryz.func32, Tryz.ntmps32
  go_wp2
  go_loopw [5] (fun i wr => ∃ k : Nat, k ≤ cols.length ∧ i = .int .i64 k ∧ Hid (Bel (w.alloc (.cells #[.slice A cols.length c, vk, vu] 26)) wr) ∧ Hid ((cols.take k).any (fun o => decide (o.name = nm)) = false)) (fun i _ => cols.length - (intOf i).toNat)
  case atStart => exact ⟨0, Nat.zero_le _, rfl, Bel.refl _, by show _ = _; simp⟩
  case round =>
    obtain ⟨k, hk, rfl, HB, HT⟩ := hrel
    have l0 : wr.cell? ⟨w.heap.size, 0, none⟩ = some (.slice A cols.length c) := HB.out.c (by go_simp)
    by_cases hlt : k < cols.length
    · obtain ⟨y, hy⟩ : ∃ y, cols[k]? = some y := ⟨_, List.getElem?_eq_getElem hlt⟩
      obtain ⟨b, off, rfl, hi⟩ := HR.out (by omega)
      have hc0 := (HB0.out.then_ HB.out).c (hi k y hy).1
      have hkI : (k : Int) < cols.length := by omega
      have HNX : Hid (¬ y.name = nm → (cols.take (k + 1)).any (fun o => decide (o.name = nm)) = false) := fun e => by
        rw [List.take_add_one, hy, List.any_append, HT.out]
        simp [e]
      have HYES : Hid (y.name = nm → PlaceIs cols nm k) := fun e => .inr ⟨k, y, rfl, hy, e, HT.out⟩
      have hse := str_beq y.name nm
      clear hi hy
      by_cases hpy : y.name = nm
      · have hd := Lib.hid (HYES.out hpy)
        rw [decide_eq_true hpy] at hse
        clear hpy HNX
        go_wp2
        go_ret
        exact ⟨⟨(k : Int), rfl, hd.out⟩, HB0.out.then_ HB.out⟩
      · have hd := Lib.hid (HNX.out hpy)
        rw [decide_eq_false hpy] at hse
        clear hpy HYES
        go_wp2
        go_roundw
        case rel => exact ⟨k + 1, by omega, by go_num, HB.out, hd.out⟩
        case measure => simp [intOf]; omega
    · obtain rfl : k = cols.length := by omega
      have HN : Hid (PlaceIs cols nm (-1)) := .inl ⟨rfl, by have := HT.out; rwa [List.take_length] at this⟩
      clear HT hlt hk
      go_wp2
      go_ret
      exact ⟨⟨-1, rfl, HN.out⟩, HB0.out.then_ HB.out⟩
theorem PlaceIs.same {cols : List Col} {nm : ByteArray} {i j : Int} (h : PlaceIs cols nm i) (k : PlaceIs cols nm j) : i = j := by
  have key : ∀ {a b : Nat} {x y : Col}, cols[a]? = some x → x.name = nm → cols[b]? = some y → (cols.take b).any (fun o => decide (o.name = nm)) = false → ¬ a < b := fun {a b x y} ha hx hb hn hlt => by
    rw [List.any_eq_false] at hn
    exact hn x (List.mem_of_getElem? (i := a) (by rw [List.getElem?_take, if_pos hlt]; exact ha)) (by simpa using hx)
  rcases h with ⟨rfl, h1⟩ | ⟨a, x, rfl, ha, hx, hn⟩ <;> rcases k with ⟨rfl, k1⟩ | ⟨b, y, rfl, hb, hy, hm⟩
  · rfl
  · rw [List.any_eq_false] at h1; exact absurd (by simpa using hy) (h1 y (List.mem_of_getElem? hb))
  · rw [List.any_eq_false] at k1; exact absurd (by simpa using hx) (k1 x (List.mem_of_getElem? ha))
  · have h1 := key ha hx hb hm
    have h2 := key hb hy ha hn
    omega
end Go.Proofs.YtkklmflclmgjeaaGreatDoor
