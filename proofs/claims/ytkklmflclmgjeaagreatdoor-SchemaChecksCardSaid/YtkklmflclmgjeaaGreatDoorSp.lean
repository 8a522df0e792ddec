/-
  Values picked out of a row, by the code and by the document.
-/
import Derived.Test.YtkklmflclmgjeaaGreatDoorSo
set_option linter.unusedVariables false
set_option linter.unusedSimpArgs false
set_option linter.unusedVariables false
set_option linter.unusedSimpArgs false
namespace Go.Proofs.YtkklmflclmgjeaaGreatDoor
open Go.RowKit Go.Shelf Go.Lib
attribute [local go_sem] Oper.semAt_some

theorem ownsRow_bel {w w' : World} {base : Nat} {e : TypeId} {size : Nat} {v : Value} {n : Nat} {xs : List Value} (h : w.ownsRow base e size v n xs) (hb : Bel w w') : w'.ownsRow base e size v n xs := by
  refine ⟨h.1, ?_⟩
  rcases h.2 with h2 | ⟨g, cap, cur, hv, hg, hh, r⟩
  · exact .inl h2
  · exact .inr ⟨g, cap, cur, hv, hg, (hb.block g (Array.getElem?_eq_some_iff.1 hh).1).trans hh, r⟩
theorem row_any {w : World} {b e z n : Nat} {v : Value} {xs : List Value} (h : w.ownsRow b e z v n xs) : ∃ A c, v = .slice A n c := by
  rcases h.2 with ⟨rfl, rfl⟩ | ⟨g, cap, cur, rfl, _⟩
  · exact ⟨none, 0, rfl⟩
  · exact ⟨_, cap, rfl⟩
def vrow (x : Val) : List Value := [.int .i64 x.k, .int .i64 x.n, .int .u64 x.u, .string x.b]
def vrows (l : List Val) : List Value := l.flatMap vrow
theorem vrows_append (l k : List Val) : vrows (l ++ k) = vrows l ++ vrows k := by simp [vrows]
theorem vrows_at : ∀ (l : List Val) (k j : Nat) (x : Val), l[k]? = some x → j < 4 → (vrows l)[k * 4 + j]? = (vrow x)[j]?
  | [], k, j, x, h, _ => by simp at h
  | y :: l, 0, j, x, h, hj => by
    simp at h
    subst h
    show (vrow y ++ vrows l)[0 * 4 + j]? = _
    rw [List.getElem?_append_left (by simp [vrow]; omega)]
    simp
  | y :: l, k + 1, j, x, h, hj => by
    show (vrow y ++ vrows l)[(k + 1) * 4 + j]? = _
    have e : (vrow y).length = 4 := rfl
    rw [List.getElem?_append_right (by omega), e, show (k + 1) * 4 + j - 4 = k * 4 + j by omega]
    exact vrows_at l k j x (by simpa using h) hj
theorem ValsAt.of_own {w : World} {b n : Nat} {v : Value} {l : List Val} (h : w.ownsRow b 48 4 v n (vrows l)) (hn : n = l.length) : ValsAt w v l := by
  subst hn
  rcases h.2 with ⟨rfl, hl⟩ | ⟨g, cap, cur, rfl, hbg, hg, h2, h3, h4, h5⟩
  · exact ⟨none, 0, by rw [hl], by omega, by unfold maxLen; omega, fun h0 => by omega⟩
  · refine ⟨_, cap, rfl, h2, by omega, fun h0 => ⟨g, 0, rfl, fun i x hx => ?_⟩⟩
    have hc : ∀ j u, (vrows l)[j]? = some u → w.cell? ⟨g, 0 + j, none⟩ = some u := fun j u hu => by
      have := h.cells (g := g) rfl j u hu
      rw [Addr.add_lit] at this
      exact this
    refine ⟨?_, ?_, ?_, ?_⟩
    · have := hc (i * 4) _ ((vrows_at l i 0 x hx (by omega)).trans rfl); exact this
    · have := hc (i * 4 + 1) _ ((vrows_at l i 1 x hx (by omega)).trans rfl); rw [← Nat.add_assoc] at this; exact this
    · have := hc (i * 4 + 2) _ ((vrows_at l i 2 x hx (by omega)).trans rfl); rw [← Nat.add_assoc] at this; exact this
    · have := hc (i * 4 + 3) _ ((vrows_at l i 3 x hx (by omega)).trans rfl); rw [← Nat.add_assoc] at this; exact this
theorem infoV : (Tryz.prog.info? 48).map (fun i => (i.zero, i.size, i.bytes)) = some (some (.agg #[.int .i64 0, .int .i64 0, .int .u64 0, .string ⟨#[]⟩]), 4, 40) := by kernel_rfl
def getV (row : List Val) (i : Int) : Option Val := if 0 ≤ i then row[i.toNat]? else none
def pickL (row : List Val) : List Int → Option (List Val)
  | [] => some []
  | i :: at_ => match getV row i, pickL row at_ with
    | some x, some l => some (x :: l)
    | _, _ => none
theorem pickL_cons (row : List Val) (i : Int) (a : List Int) : pickL row (i :: a) = match getV row i, pickL row a with
    | some x, some l => some (x :: l)
    | _, _ => none := rfl
theorem pickL_append (row : List Val) (b : List Int) : ∀ a : List Int, pickL row (a ++ b) = (pickL row a).bind fun l => (pickL row b).map (l ++ ·)
  | [] => by simp [pickL]
  | i :: a => by
    rw [List.cons_append, pickL_cons, pickL_cons, pickL_append row b a]
    cases getV row i <;> cases pickL row a <;> cases pickL row b <;> rfl
theorem pickL_one (row : List Val) (i : Int) : pickL row [i] = (getV row i).map fun x => [x] := by
  rw [pickL_cons]
  cases getV row i <;> rfl
def pickR (row : List Val) (at_ : List Int) : List Val × Int := match pickL row at_ with
  | some l => (l, 0)
  | none => ([], 4)
theorem reads4 (w : World) (T : TypeId) (c0 c1 c2 c3 : Value) : Reads (w.alloc (.cells #[c0, c1, c2, c3] T)) (w.heap.size + 1) 4 (some ⟨w.heap.size, 0, none⟩) 1 [c0, c1, c2, c3] := by
  refine ⟨rfl, fun _ => ⟨_, rfl, by simp, fun j u hu => ?_⟩⟩
  rw [Addr.add_lit]
  have hj := (List.getElem?_eq_some_iff.1 hu).1
  simp at hj
  have hc : j = 0 ∨ j = 1 ∨ j = 2 ∨ j = 3 := by omega
  rcases hc with rfl | rfl | rfl | rfl <;> (simp at hu; subst hu; simp)
set_option maxRecDepth 100000 in
set_option maxHeartbeats 4000000 in
theorem scPick_any (vr va : Value) (row : List Val) (at_ : List Int) (w : World) (hr : ValsAt w vr row) (ha : IntsAt w va at_) (hmany : at_.length ≤ 1000) :
    Calls Tryz.prog 20 #[vr, va] w fun e w' => ∃ v, e = .returned (.tuple #[v, .int .i64 (pickR row at_).2]) ∧ ValsAt w' v (pickR row at_).1 ∧ Bel w w' := by
  obtain ⟨R, hR⟩ : ∃ R, R = pickR row at_ := ⟨_, rfl⟩
  rw [← hR]
  have HR := Lib.hid hR
  clear hR
  obtain ⟨Ar, cr, rfl, hcr, hmr, hrr⟩ := hr
  obtain ⟨Aa, ca, rfl, hca, hma, hra⟩ := ha
  have hrI : (row.length : Int) ≤ 9223372036854775807 := by unfold maxLen at hmr; omega
  have haI : (at_.length : Int) ≤ 9223372036854775807 := by unfold maxLen at hma; omega
  have HRR := Lib.hid hrr
  have HRA := Lib.hid hra
  clear hrr hra hmr hma hcr hca
  obtain ⟨i0, hi0, hz0, hz1, hz2⟩ := info_parts infoV
  have hp2 : (0 : Nat) < 4 := by omega
  go_enter Tryz.func20, Tryz.ntmps20
  go_wp2
  go_loopw [6, 11] (fun v i wr => ∃ (k : Nat) (L : List Val), k ≤ at_.length ∧ i = .int .i64 k ∧ (∃ A c, v = .slice A k c) ∧ Hid (pickL row (at_.take k) = some L ∧ L.length = k) ∧ Hid (Bel w wr ∧ wr.ownsRow w.heap.size 48 4 v k (vrows L))) (fun v i _ => at_.length - (intOf i).toNat)
  case atStart => exact ⟨0, [], Nat.zero_le _, rfl, ⟨none, 0, rfl⟩, ⟨rfl, rfl⟩, Bel.refl w, World.ownsRow_nil _ _ _ _⟩
  case round =>
    obtain ⟨k, L, hk, rfl, ⟨A, c, rfl⟩, HL, HO⟩ := hrel
    by_cases hlt : k < at_.length
    · obtain ⟨i, hi⟩ : ∃ i, at_[k]? = some i := ⟨_, List.getElem?_eq_getElem hlt⟩
      obtain ⟨ba, oa, rfl, hai⟩ := HRA.out (by omega)
      have hca := HO.out.1.c (hai k i hi)
      have hkI : (k : Int) < at_.length := by omega
      have htk : at_.take (k + 1) = at_.take k ++ [i] := by rw [List.take_add_one, hi]; rfl
      have HTK : Hid (pickL row (at_.take (k + 1)) = (getV row i).map fun x => L ++ [x]) := by
        show _ = _
        rw [htk, pickL_append, HL.out.1, pickL_one]
        cases getV row i <;> rfl
      have HBAD : Hid (getV row i = none → R = ([], 4)) := fun e => by
        rw [HR.out]
        unfold pickR
        have h1 : pickL row at_ = none := by
          have h2 : pickL row (at_.take (k + 1) ++ at_.drop (k + 1)) = none := by rw [pickL_append, HTK.out, e]; rfl
          rwa [List.take_append_drop] at h2
        rw [h1]
      clear hi hai htk
      by_cases hx0 : i < 0
      · have hf := HBAD.out (by unfold getV; rw [if_neg (by omega)])
        go_wp2
        go_ret2
        exact ⟨_, by first | rfl | (rw [hf]; rfl), by first | exact ⟨none, 0, rfl, Nat.le_refl _, Nat.zero_le _, fun h => by simp at h⟩ | (rw [hf]; exact ⟨none, 0, rfl, Nat.le_refl _, Nat.zero_le _, fun h => by simp at h⟩), HO.out.1⟩
      · have hx0b : decide (i < 0) = false := by simp; omega
        obtain ⟨n, rfl⟩ := Int.eq_ofNat_of_zero_le (Int.not_lt.1 hx0)
        by_cases hn : n < row.length
        · obtain ⟨x, hx⟩ : ∃ x, row[n]? = some x := ⟨_, List.getElem?_eq_getElem hn⟩
          obtain ⟨br, or_, rfl, hri⟩ := HRR.out (by omega)
          obtain ⟨q0, q1, q2, q3⟩ := hri n x hx
          have p0 := HO.out.1.c q0
          have p1 := HO.out.1.c q1
          have p2 := HO.out.1.c q2
          have p3 := HO.out.1.c q3
          have hnI : (n : Int) < row.length := by omega
          have hnb : decide ((row.length : Int) ≤ n) = false := by simp; omega
          have HNX : Hid (pickL row (at_.take (k + 1)) = some (L ++ [x]) ∧ (L ++ [x]).length = k + 1) := by
            refine ⟨?_, by rw [List.length_append, HL.out.2]; rfl⟩
            rw [HTK.out]
            have : getV row (n : Int) = some x := by unfold getV; rw [if_pos (by omega)]; simpa using hx
            rw [this]; rfl
          have hal : Bel wr (wr.alloc (.cells #[.int .i64 x.k, .int .i64 x.n, .int .u64 x.u, .string x.b] 48)) := (Bel.refl wr).alloc _
          have HOW := Lib.hid (ownsRow_bel HO.out.2 hal)
          have HAL := Lib.hid (HO.out.1.then_ hal)
          have HX1 : Hid (Reads (wr.alloc (.cells #[.int .i64 x.k, .int .i64 x.n, .int .u64 x.u, .string x.b] 48)) (wr.heap.size + 1) 4 (some ⟨wr.heap.size, 0, none⟩) 1 (vrow x)) := reads4 wr _ _ _ _ _
          have HS1 : Hid (w.heap.size ≤ (wr.alloc (.cells #[.int .i64 x.k, .int .i64 x.n, .int .u64 x.u, .string x.b] 48)).heap.size) := (HO.out.1.then_ hal).size
          have hon : ∀ u ∈ vrow x, u.oneCell' = true := fun u hu => by
            simp [vrow] at hu
            rcases hu with rfl | rfl | rfl | rfl <;> rfl
          have h63 : k + 1 ≤ maxLen := by unfold maxLen; omega
          have hby : (k + 1) * 40 ≤ 140737488355328 := by omega
          clear hx hri q0 q1 q2 q3 hal HTK HBAD
          go_wp2_with (at_builtin; refine wpList_append_any _ rfl _ _ _ rfl w.heap.size 48 i0 _ 4 40 Tryz.underlying27 hi0 hz0 hz1 hz2 rfl hp2 _ k (vrows L) rfl HOW.out _ (some ⟨wr.heap.size, 0, none⟩) 1 1 (vrow x) rfl HX1.out hon h63 hby HS1.out ?_; intro v9 w9 hown9 hg9 hat9; obtain ⟨A9, c9, rfl⟩ := row_any hown9; have hb9 : Bel w w9 := Below.grown HAL.out hg9 HS1.out (fun j e => (HOW.out.lt j e).1); have HN : Hid (Bel w w9 ∧ w9.ownsRow w.heap.size 48 4 (.slice A9 (k + 1) c9) (k + 1) (vrows (L ++ [x]))) := ⟨hb9, by rw [vrows_append]; simpa [vrows] using hown9⟩; clear hown9 hg9 hat9 hb9)
          go_roundw
          case rel => exact ⟨k + 1, L ++ [x], by omega, by go_num, ⟨A9, c9, rfl⟩, HNX.out, HN.out⟩
          case measure => simp [intOf]; omega
        · have hf := HBAD.out (by unfold getV; rw [if_pos (by omega)]; simp; omega)
          have hnb : (row.length : Int) ≤ n := by omega
          go_wp2
          go_ret2
          exact ⟨_, by first | rfl | (rw [hf]; rfl), by first | exact ⟨none, 0, rfl, Nat.le_refl _, Nat.zero_le _, fun h => by simp at h⟩ | (rw [hf]; exact ⟨none, 0, rfl, Nat.le_refl _, Nat.zero_le _, fun h => by simp at h⟩), HO.out.1⟩
    · obtain rfl : k = at_.length := by omega
      have ht : R = (L, 0) := by
        have := HL.out.1
        rw [List.take_length] at this
        rw [HR.out]; unfold pickR; rw [this]
      have HV := Lib.hid (ValsAt.of_own HO.out.2 HL.out.2.symm)
      clear hlt hk
      go_wp2
      go_ret2
      exact ⟨_, by first | rfl | (rw [ht]; rfl), by first | exact HV.out | (rw [ht]; exact HV.out), HO.out.1⟩
set_option maxRecDepth 100000 in
set_option maxHeartbeats 4000000 in
theorem tPick_any (vr va : Value) (row : List Val) (at_ : List Int) (w : World) (hr : ValsAt w vr row) (ha : IntsAt w va at_) (hmany : at_.length ≤ 1000) :
    Calls Tryz.prog 21 #[vr, va] w fun e w' => ∃ v, e = .returned (.tuple #[v, .int .i64 (pickR row at_).2]) ∧ ValsAt w' v (pickR row at_).1 ∧ Bel w w' := by
  obtain ⟨R, hR⟩ : ∃ R, R = pickR row at_ := ⟨_, rfl⟩
  rw [← hR]
  have HR := Lib.hid hR
  clear hR
  obtain ⟨Ar, cr, rfl, hcr, hmr, hrr⟩ := hr
  obtain ⟨Aa, ca, rfl, hca, hma, hra⟩ := ha
  have hrI : (row.length : Int) ≤ 9223372036854775807 := by unfold maxLen at hmr; omega
  have haI : (at_.length : Int) ≤ 9223372036854775807 := by unfold maxLen at hma; omega
  have HRR := Lib.hid hrr
  have HRA := Lib.hid hra
  clear hrr hra hmr hma hcr hca
  obtain ⟨i0, hi0, hz0, hz1, hz2⟩ := info_parts infoV
  have hp2 : (0 : Nat) < 4 := by omega
  go_enter Tryz.func21, Tryz.ntmps21
  go_wp2
  go_loopw [6, 7] (fun v i wr => ∃ (k : Nat) (L : List Val), k ≤ at_.length ∧ i = .int .i64 k ∧ (∃ A c, v = .slice A k c) ∧ Hid (pickL row (at_.take k) = some L ∧ L.length = k) ∧ Hid (Bel w wr ∧ wr.ownsRow w.heap.size 48 4 v k (vrows L))) (fun v i _ => at_.length - (intOf i).toNat)
  case atStart => exact ⟨0, [], Nat.zero_le _, rfl, ⟨none, 0, rfl⟩, ⟨rfl, rfl⟩, Bel.refl w, World.ownsRow_nil _ _ _ _⟩
  case round =>
    obtain ⟨k, L, hk, rfl, ⟨A, c, rfl⟩, HL, HO⟩ := hrel
    by_cases hlt : k < at_.length
    · obtain ⟨i, hi⟩ : ∃ i, at_[k]? = some i := ⟨_, List.getElem?_eq_getElem hlt⟩
      obtain ⟨ba, oa, rfl, hai⟩ := HRA.out (by omega)
      have hca := HO.out.1.c (hai k i hi)
      have hkI : (k : Int) < at_.length := by omega
      have htk : at_.take (k + 1) = at_.take k ++ [i] := by rw [List.take_add_one, hi]; rfl
      have HTK : Hid (pickL row (at_.take (k + 1)) = (getV row i).map fun x => L ++ [x]) := by
        show _ = _
        rw [htk, pickL_append, HL.out.1, pickL_one]
        cases getV row i <;> rfl
      have HBAD : Hid (getV row i = none → R = ([], 4)) := fun e => by
        rw [HR.out]
        unfold pickR
        have h1 : pickL row at_ = none := by
          have h2 : pickL row (at_.take (k + 1) ++ at_.drop (k + 1)) = none := by rw [pickL_append, HTK.out, e]; rfl
          rwa [List.take_append_drop] at h2
        rw [h1]
      clear hi hai htk
      by_cases hx0 : i < 0
      · have hf := HBAD.out (by unfold getV; rw [if_neg (by omega)])
        go_wp2
        go_ret2
        exact ⟨_, by first | rfl | (rw [hf]; rfl), by first | exact ⟨none, 0, rfl, Nat.le_refl _, Nat.zero_le _, fun h => by simp at h⟩ | (rw [hf]; exact ⟨none, 0, rfl, Nat.le_refl _, Nat.zero_le _, fun h => by simp at h⟩), HO.out.1⟩
      · have hx0b : decide (i < 0) = false := by simp; omega
        obtain ⟨n, rfl⟩ := Int.eq_ofNat_of_zero_le (Int.not_lt.1 hx0)
        by_cases hn : n < row.length
        · obtain ⟨x, hx⟩ : ∃ x, row[n]? = some x := ⟨_, List.getElem?_eq_getElem hn⟩
          obtain ⟨br, or_, rfl, hri⟩ := HRR.out (by omega)
          obtain ⟨q0, q1, q2, q3⟩ := hri n x hx
          have p0 := HO.out.1.c q0
          have p1 := HO.out.1.c q1
          have p2 := HO.out.1.c q2
          have p3 := HO.out.1.c q3
          have hnI : (n : Int) < row.length := by omega
          have hnb : decide ((row.length : Int) ≤ n) = false := by simp; omega
          have HNX : Hid (pickL row (at_.take (k + 1)) = some (L ++ [x]) ∧ (L ++ [x]).length = k + 1) := by
            refine ⟨?_, by rw [List.length_append, HL.out.2]; rfl⟩
            rw [HTK.out]
            have : getV row (n : Int) = some x := by unfold getV; rw [if_pos (by omega)]; simpa using hx
            rw [this]; rfl
          have hal : Bel wr (wr.alloc (.cells #[.int .i64 x.k, .int .i64 x.n, .int .u64 x.u, .string x.b] 48)) := (Bel.refl wr).alloc _
          have HOW := Lib.hid (ownsRow_bel HO.out.2 hal)
          have HAL := Lib.hid (HO.out.1.then_ hal)
          have HX1 : Hid (Reads (wr.alloc (.cells #[.int .i64 x.k, .int .i64 x.n, .int .u64 x.u, .string x.b] 48)) (wr.heap.size + 1) 4 (some ⟨wr.heap.size, 0, none⟩) 1 (vrow x)) := reads4 wr _ _ _ _ _
          have HS1 : Hid (w.heap.size ≤ (wr.alloc (.cells #[.int .i64 x.k, .int .i64 x.n, .int .u64 x.u, .string x.b] 48)).heap.size) := (HO.out.1.then_ hal).size
          have hon : ∀ u ∈ vrow x, u.oneCell' = true := fun u hu => by
            simp [vrow] at hu
            rcases hu with rfl | rfl | rfl | rfl <;> rfl
          have h63 : k + 1 ≤ maxLen := by unfold maxLen; omega
          have hby : (k + 1) * 40 ≤ 140737488355328 := by omega
          clear hx hri q0 q1 q2 q3 hal HTK HBAD
          go_wp2_with (at_builtin; refine wpList_append_any _ rfl _ _ _ rfl w.heap.size 48 i0 _ 4 40 Tryz.underlying27 hi0 hz0 hz1 hz2 rfl hp2 _ k (vrows L) rfl HOW.out _ (some ⟨wr.heap.size, 0, none⟩) 1 1 (vrow x) rfl HX1.out hon h63 hby HS1.out ?_; intro v9 w9 hown9 hg9 hat9; obtain ⟨A9, c9, rfl⟩ := row_any hown9; have hb9 : Bel w w9 := Below.grown HAL.out hg9 HS1.out (fun j e => (HOW.out.lt j e).1); have HN : Hid (Bel w w9 ∧ w9.ownsRow w.heap.size 48 4 (.slice A9 (k + 1) c9) (k + 1) (vrows (L ++ [x]))) := ⟨hb9, by rw [vrows_append]; simpa [vrows] using hown9⟩; clear hown9 hg9 hat9 hb9)
          go_roundw
          case rel => exact ⟨k + 1, L ++ [x], by omega, by go_num, ⟨A9, c9, rfl⟩, HNX.out, HN.out⟩
          case measure => simp [intOf]; omega
        · have hf := HBAD.out (by unfold getV; rw [if_pos (by omega)]; simp; omega)
          have hnb : (row.length : Int) ≤ n := by omega
          go_wp2
          go_ret2
          exact ⟨_, by first | rfl | (rw [hf]; rfl), by first | exact ⟨none, 0, rfl, Nat.le_refl _, Nat.zero_le _, fun h => by simp at h⟩ | (rw [hf]; exact ⟨none, 0, rfl, Nat.le_refl _, Nat.zero_le _, fun h => by simp at h⟩), HO.out.1⟩
    · obtain rfl : k = at_.length := by omega
      have ht : R = (L, 0) := by
        have := HL.out.1
        rw [List.take_length] at this
        rw [HR.out]; unfold pickR; rw [this]
      have HV := Lib.hid (ValsAt.of_own HO.out.2 HL.out.2.symm)
      clear hlt hk
      go_wp2
      go_ret2
      exact ⟨_, by first | rfl | (rw [ht]; rfl), by first | exact HV.out | (rw [ht]; exact HV.out), HO.out.1⟩
end Go.Proofs.YtkklmflclmgjeaaGreatDoor
