/-
  Schema: lists of columns, of sets; whether a function finds one.
-/
import Derived.Test.YtkklmflclmgjeaaGreatDoorSh
set_option linter.unusedVariables false
set_option linter.unusedSimpArgs false
set_option linter.unusedVariables false
set_option linter.unusedSimpArgs false
namespace Go.Proofs.YtkklmflclmgjeaaGreatDoor
open Go.RowKit Go.Shelf Go.Lib
attribute [local go_sem] Oper.semAt_some

/-- A list of columns lies behind a slice; a list of lists of numbers. -/
def ColsAt (w : World) (v : Value) (l : List Col) : Prop := ∃ A c, v = .slice A l.length c ∧ l.length ≤ c ∧ c ≤ maxLen ∧ (0 < l.length → ∃ b off, A = some ⟨b, off, none⟩ ∧ ∀ i (x : Col), l[i]? = some x →
  w.cell? ⟨b, off + i * 4, none⟩ = some (.string x.name) ∧ w.cell? ⟨b, off + i * 4 + 1, none⟩ = some (.int .i64 x.t) ∧ w.cell? ⟨b, off + i * 4 + 2, none⟩ = some (.int .i64 x.z) ∧ w.cell? ⟨b, off + i * 4 + 3, none⟩ = some (.bool x.null))
theorem ColsAt.bel {w w' : World} {v : Value} {l : List Col} (h : ColsAt w v l) (hb : Bel w w') : ColsAt w' v l := by
  obtain ⟨A, c, e, hc, hm, h⟩ := h
  exact ⟨A, c, e, hc, hm, fun hl => by obtain ⟨b, off, ea, hi⟩ := h hl; exact ⟨b, off, ea, fun i x hx => ⟨hb.c (hi i x hx).1, hb.c (hi i x hx).2.1, hb.c (hi i x hx).2.2.1, hb.c (hi i x hx).2.2.2⟩⟩⟩
theorem ColsAt.take {w : World} {A : Option Addr} {c : Nat} {l : List Col} (h : ColsAt w (.slice A l.length c) l) (k : Nat) (hk : k ≤ l.length) : ColsAt w (.slice A k c) (l.take k) := by
  obtain ⟨A', c', e, hc, hm, h⟩ := h
  cases e
  have e : (l.take k).length = k := by rw [List.length_take]; omega
  refine ⟨A, c, by rw [e], by omega, hm, fun hl => ?_⟩
  obtain ⟨b, off, ea, hi⟩ := h (by omega)
  exact ⟨b, off, ea, fun i n hn => hi i n (by
    have hlt := (List.getElem?_eq_some_iff.1 hn).1
    rw [List.getElem?_take, if_pos (by omega)] at hn
    exact hn)⟩
def ListsAt (w : World) (v : Value) (L : List (List Int)) : Prop := ∃ A c, v = .slice A L.length c ∧ L.length ≤ c ∧ c ≤ maxLen ∧ (0 < L.length → ∃ b off, A = some ⟨b, off, none⟩ ∧ ∀ i l, L[i]? = some l → ∃ u, w.cell? ⟨b, off + i, none⟩ = some u ∧ IntsAt w u l)
theorem ListsAt.bel {w w' : World} {v : Value} {L : List (List Int)} (h : ListsAt w v L) (hb : Bel w w') : ListsAt w' v L := by
  obtain ⟨A, c, e, hc, hm, h⟩ := h
  exact ⟨A, c, e, hc, hm, fun hl => by obtain ⟨b, off, ea, hi⟩ := h hl; exact ⟨b, off, ea, fun i x hx => by obtain ⟨u, h1, h2⟩ := hi i x hx; exact ⟨u, hb.c h1, h2.bel hb⟩⟩⟩
set_option maxHeartbeats 2000000 in
theorem slIndexFuncInt_any (g : Nat) (lb : Array Value) (eg : ∀ args w, (callFunc g args).run Tryz.prog w = .ok (.enter g args) w) (p : Int → Bool) (v : Value) (l : List Int) (w : World) (h : IntsAt w v l)
    (hp : ∀ W, Bel w W → ∀ x ∈ l, Calls Tryz.prog g (#[.int .i64 x] ++ lb) W fun e w' => e = .returned (.bool (p x)) ∧ Bel W w') :
    Calls Tryz.prog 150 #[v, .func (.func g) #[] lb] w fun e w' => (∃ i : Int, e = .returned (.int .i64 i) ∧ (0 ≤ i ↔ l.any p = true)) ∧ Bel w w' := by
  have HV := Lib.hid h
  obtain ⟨A, c, rfl, hcl, hm, hr⟩ := h
  have HP := Lib.hid hp
  have hlI : (l.length : Int) ≤ 9223372036854775807 := by unfold maxLen at hm; omega
  have HR := Lib.hid hr
  clear hr hm hp
  go_enter Tryz.func150, Tryz.ntmps150
  go_wp2
  go_loopw [8] (fun i wr => ∃ k : Nat, k ≤ l.length ∧ i = .int .i64 k ∧ Hid (Bel w wr) ∧ Hid ((l.take k).any p = false)) (fun i _ => l.length - (intOf i).toNat)
  case atStart => exact ⟨0, Nat.zero_le _, rfl, Bel.refl w, by show _ = _; simp⟩
  case round =>
    obtain ⟨k, hk, rfl, HB, HT⟩ := hrel
    by_cases hlt : k < l.length
    · obtain ⟨y, hy⟩ : ∃ y, l[k]? = some y := ⟨_, List.getElem?_eq_getElem hlt⟩
      obtain ⟨b, off, rfl, hi⟩ := HR.out (by omega)
      have hc1 := HB.out.c (hi k y hy)
      have hkI : (k : Int) < l.length := by omega
      have hmem : y ∈ l := List.mem_of_getElem? hy
      have HC := Lib.hid (HP.out wr HB.out y hmem)
      have HNX : Hid (p y = false → (l.take (k + 1)).any p = false) := fun e => by
        rw [List.take_add_one, hy, List.any_append, HT.out]
        simp [e]
      have HYES : Hid (p y = true → l.any p = true) := fun e => List.any_eq_true.2 ⟨y, hmem, e⟩
      clear hi hy hmem
      cases hpy : p y with
      | true =>
        rw [hpy] at HC HYES
        clear hpy
        go_wp2_with (go_at_fn g; refine HC.out.mono ?_; rintro e w4 ⟨rfl, hb4⟩)
        go_ret
        exact ⟨⟨(k : Int), rfl, by constructor <;> intro _ <;> first | exact HYES.out rfl | exact HYES.out trivial | omega⟩, HB.out.then_ hb4⟩
      | false =>
        rw [hpy] at HC HNX
        clear hpy
        go_wp2_with (go_at_fn g; refine HC.out.mono ?_; rintro e w4 ⟨rfl, hb4⟩)
        go_roundw
        case rel => exact ⟨k + 1, by omega, by go_num, HB.out.then_ hb4, by first | exact HNX.out rfl | exact HNX.out trivial⟩
        case measure => simp [intOf]; omega
    · obtain rfl : k = l.length := by omega
      have HN : Hid (l.any p = false) := by show _ = _; have := HT.out; rwa [List.take_length] at this
      clear HT hlt hk
      go_wp2
      go_ret
      exact ⟨⟨-1, rfl, by constructor <;> intro h <;> first | (rw [HN.out] at h; cases h) | (exfalso; omega)⟩, HB.out⟩
theorem slContainsFuncInt_any (g : Nat) (lb : Array Value) (eg : ∀ args w, (callFunc g args).run Tryz.prog w = .ok (.enter g args) w) (p : Int → Bool) (v : Value) (l : List (Int)) (w : World) (h : IntsAt w v l)
    (hp : ∀ W, Bel w W → ∀ x ∈ l, Calls Tryz.prog g (#[.int .i64 x] ++ lb) W fun e w' => e = .returned (.bool (p x)) ∧ Bel W w') :
    Calls Tryz.prog 104 #[v, .func (.func g) #[] lb] w fun e w' => e = .returned (.bool (l.any p)) ∧ Bel w w' := by
  have HI := Lib.hid (slIndexFuncInt_any g lb eg p v l w h hp)
  obtain ⟨A, c, rfl, -⟩ := h
  obtain ⟨R, hR⟩ : ∃ R, R = l.any p := ⟨_, rfl⟩
  rw [← hR]
  have HR := Lib.hid hR
  clear hR hp
  go_enter Tryz.func104, Tryz.ntmps104
  go_wp2_with fail
  refine HI.out.mono ?_
  rintro e w' ⟨⟨i, rfl, hi⟩, hb⟩
  have hd : l.any p = decide (0 ≤ i) := by cases h : l.any p <;> simp [h] at hi ⊢ <;> omega
  have HRD : Hid (R = decide (0 ≤ i)) := by show _ = _; rw [HR.out, hd]
  have HB := Lib.hid hb
  clear hi hd HI hb
  go_wp2
  go_ret
  exact ⟨by rw [HRD.out]; rfl, HB.out⟩
set_option maxHeartbeats 2000000 in
theorem slIndexFuncInts_any (g : Nat) (lb : Array Value) (eg : ∀ args w, (callFunc g args).run Tryz.prog w = .ok (.enter g args) w) (p : List Int → Bool) (v : Value) (l : List (List Int)) (w : World) (h : ListsAt w v l)
    (hp : ∀ W, Bel w W → ∀ x ∈ l, ∀ u, IntsAt W u x → Calls Tryz.prog g (#[u] ++ lb) W fun e w' => e = .returned (.bool (p x)) ∧ Bel W w') :
    Calls Tryz.prog 151 #[v, .func (.func g) #[] lb] w fun e w' => (∃ i : Int, e = .returned (.int .i64 i) ∧ (0 ≤ i ↔ l.any p = true)) ∧ Bel w w' := by
  have HV := Lib.hid h
  obtain ⟨A, c, rfl, hcl, hm, hr⟩ := h
  have HP := Lib.hid hp
  have hlI : (l.length : Int) ≤ 9223372036854775807 := by unfold maxLen at hm; omega
  have HR := Lib.hid hr
  clear hr hm hp
  go_enter Tryz.func151, Tryz.ntmps151
  go_wp2
  go_loopw [8] (fun i wr => ∃ k : Nat, k ≤ l.length ∧ i = .int .i64 k ∧ Hid (Bel w wr) ∧ Hid ((l.take k).any p = false)) (fun i _ => l.length - (intOf i).toNat)
  case atStart => exact ⟨0, Nat.zero_le _, rfl, Bel.refl w, by show _ = _; simp⟩
  case round =>
    obtain ⟨k, hk, rfl, HB, HT⟩ := hrel
    by_cases hlt : k < l.length
    · obtain ⟨y, hy⟩ : ∃ y, l[k]? = some y := ⟨_, List.getElem?_eq_getElem hlt⟩
      obtain ⟨b, off, rfl, hi⟩ := HR.out (by omega)
      obtain ⟨u, hc0, hu⟩ := hi k y hy
      have hc1 := HB.out.c hc0
      have hkI : (k : Int) < l.length := by omega
      have hmem : y ∈ l := List.mem_of_getElem? hy
      have HC := Lib.hid (HP.out wr HB.out y hmem u (hu.bel HB.out))
      have HNX : Hid (p y = false → (l.take (k + 1)).any p = false) := fun e => by
        rw [List.take_add_one, hy, List.any_append, HT.out]
        simp [e]
      have HYES : Hid (p y = true → l.any p = true) := fun e => List.any_eq_true.2 ⟨y, hmem, e⟩
      clear hi hy hmem hu hc0
      cases hpy : p y with
      | true =>
        rw [hpy] at HC HYES
        clear hpy
        go_wp2_with (go_at_fn g; refine HC.out.mono ?_; rintro e w4 ⟨rfl, hb4⟩)
        go_ret
        exact ⟨⟨(k : Int), rfl, by constructor <;> intro _ <;> first | exact HYES.out rfl | exact HYES.out trivial | omega⟩, HB.out.then_ hb4⟩
      | false =>
        rw [hpy] at HC HNX
        clear hpy
        go_wp2_with (go_at_fn g; refine HC.out.mono ?_; rintro e w4 ⟨rfl, hb4⟩)
        go_roundw
        case rel => exact ⟨k + 1, by omega, by go_num, HB.out.then_ hb4, by first | exact HNX.out rfl | exact HNX.out trivial⟩
        case measure => simp [intOf]; omega
    · obtain rfl : k = l.length := by omega
      have HN : Hid (l.any p = false) := by show _ = _; have := HT.out; rwa [List.take_length] at this
      clear HT hlt hk
      go_wp2
      go_ret
      exact ⟨⟨-1, rfl, by constructor <;> intro h <;> first | (rw [HN.out] at h; cases h) | (exfalso; omega)⟩, HB.out⟩
theorem slContainsFuncInts_any (g : Nat) (lb : Array Value) (eg : ∀ args w, (callFunc g args).run Tryz.prog w = .ok (.enter g args) w) (p : List Int → Bool) (v : Value) (l : List (List Int)) (w : World) (h : ListsAt w v l)
    (hp : ∀ W, Bel w W → ∀ x ∈ l, ∀ u, IntsAt W u x → Calls Tryz.prog g (#[u] ++ lb) W fun e w' => e = .returned (.bool (p x)) ∧ Bel W w') :
    Calls Tryz.prog 105 #[v, .func (.func g) #[] lb] w fun e w' => e = .returned (.bool (l.any p)) ∧ Bel w w' := by
  have HI := Lib.hid (slIndexFuncInts_any g lb eg p v l w h hp)
  obtain ⟨A, c, rfl, -⟩ := h
  obtain ⟨R, hR⟩ : ∃ R, R = l.any p := ⟨_, rfl⟩
  rw [← hR]
  have HR := Lib.hid hR
  clear hR hp
  go_enter Tryz.func105, Tryz.ntmps105
  go_wp2_with fail
  refine HI.out.mono ?_
  rintro e w' ⟨⟨i, rfl, hi⟩, hb⟩
  have hd : l.any p = decide (0 ≤ i) := by cases h : l.any p <;> simp [h] at hi ⊢ <;> omega
  have HRD : Hid (R = decide (0 ≤ i)) := by show _ = _; rw [HR.out, hd]
  have HB := Lib.hid hb
  clear hi hd HI hb
  go_wp2
  go_ret
  exact ⟨by rw [HRD.out]; rfl, HB.out⟩
set_option maxHeartbeats 2000000 in
theorem slIndexFuncCol_any (g : Nat) (lb : Array Value) (eg : ∀ args w, (callFunc g args).run Tryz.prog w = .ok (.enter g args) w) (p : Col → Bool) (v : Value) (l : List Col) (w : World) (h : ColsAt w v l)
    (hp : ∀ W, Bel w W → ∀ x ∈ l, Calls Tryz.prog g (#[x.v] ++ lb) W fun e w' => e = .returned (.bool (p x)) ∧ Bel W w') :
    Calls Tryz.prog 64 #[v, .func (.func g) #[] lb] w fun e w' => (∃ i : Int, e = .returned (.int .i64 i) ∧ (0 ≤ i ↔ l.any p = true)) ∧ Bel w w' := by
  have HV := Lib.hid h
  obtain ⟨A, c, rfl, hcl, hm, hr⟩ := h
  have HP := Lib.hid hp
  have hlI : (l.length : Int) ≤ 9223372036854775807 := by unfold maxLen at hm; omega
  have HR := Lib.hid hr
  clear hr hm hp
  go_enter Tryz.func64, Tryz.ntmps64
  go_wp2
  go_loopw [8] (fun i wr => ∃ k : Nat, k ≤ l.length ∧ i = .int .i64 k ∧ Hid (Bel w wr) ∧ Hid ((l.take k).any p = false)) (fun i _ => l.length - (intOf i).toNat)
  case atStart => exact ⟨0, Nat.zero_le _, rfl, Bel.refl w, by show _ = _; simp⟩
  case round =>
    obtain ⟨k, hk, rfl, HB, HT⟩ := hrel
    by_cases hlt : k < l.length
    · obtain ⟨y, hy⟩ : ∃ y, l[k]? = some y := ⟨_, List.getElem?_eq_getElem hlt⟩
      obtain ⟨b, off, rfl, hi⟩ := HR.out (by omega)
      obtain ⟨q0, q1, q2, q3⟩ := hi k y hy
      have hc0 := HB.out.c q0
      have hc1 := HB.out.c q1
      have hc2 := HB.out.c q2
      have hc3 := HB.out.c q3
      have hkI : (k : Int) < l.length := by omega
      have hmem : y ∈ l := List.mem_of_getElem? hy
      have HC := Lib.hid (HP.out wr HB.out y hmem)
      have HNX : Hid (p y = false → (l.take (k + 1)).any p = false) := fun e => by
        rw [List.take_add_one, hy, List.any_append, HT.out]
        simp [e]
      have HYES : Hid (p y = true → l.any p = true) := fun e => List.any_eq_true.2 ⟨y, hmem, e⟩
      clear hi hy hmem q0 q1 q2 q3
      cases hpy : p y with
      | true =>
        rw [hpy] at HC HYES
        clear hpy
        go_wp2_with (go_at_fn g; refine HC.out.mono ?_; rintro e w4 ⟨rfl, hb4⟩)
        go_ret
        exact ⟨⟨(k : Int), rfl, by constructor <;> intro _ <;> first | exact HYES.out rfl | exact HYES.out trivial | omega⟩, HB.out.then_ hb4⟩
      | false =>
        rw [hpy] at HC HNX
        clear hpy
        go_wp2_with (go_at_fn g; refine HC.out.mono ?_; rintro e w4 ⟨rfl, hb4⟩)
        go_roundw
        case rel => exact ⟨k + 1, by omega, by go_num, HB.out.then_ hb4, by first | exact HNX.out rfl | exact HNX.out trivial⟩
        case measure => simp [intOf]; omega
    · obtain rfl : k = l.length := by omega
      have HN : Hid (l.any p = false) := by show _ = _; have := HT.out; rwa [List.take_length] at this
      clear HT hlt hk
      go_wp2
      go_ret
      exact ⟨⟨-1, rfl, by constructor <;> intro h <;> first | (rw [HN.out] at h; cases h) | (exfalso; omega)⟩, HB.out⟩
theorem slContainsFuncCol_any (g : Nat) (lb : Array Value) (eg : ∀ args w, (callFunc g args).run Tryz.prog w = .ok (.enter g args) w) (p : Col → Bool) (v : Value) (l : List (Col)) (w : World) (h : ColsAt w v l)
    (hp : ∀ W, Bel w W → ∀ x ∈ l, Calls Tryz.prog g (#[x.v] ++ lb) W fun e w' => e = .returned (.bool (p x)) ∧ Bel W w') :
    Calls Tryz.prog 101 #[v, .func (.func g) #[] lb] w fun e w' => e = .returned (.bool (l.any p)) ∧ Bel w w' := by
  have HI := Lib.hid (slIndexFuncCol_any g lb eg p v l w h hp)
  obtain ⟨A, c, rfl, -⟩ := h
  obtain ⟨R, hR⟩ : ∃ R, R = l.any p := ⟨_, rfl⟩
  rw [← hR]
  have HR := Lib.hid hR
  clear hR hp
  go_enter Tryz.func101, Tryz.ntmps101
  go_wp2_with fail
  refine HI.out.mono ?_
  rintro e w' ⟨⟨i, rfl, hi⟩, hb⟩
  have hd : l.any p = decide (0 ≤ i) := by cases h : l.any p <;> simp [h] at hi ⊢ <;> omega
  have HRD : Hid (R = decide (0 ≤ i)) := by show _ = _; rw [HR.out, hd]
  have HB := Lib.hid hb
  clear hi hd HI hb
  go_wp2
  go_ret
  exact ⟨by rw [HRD.out]; rfl, HB.out⟩
end Go.Proofs.YtkklmflclmgjeaaGreatDoor
