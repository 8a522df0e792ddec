/-
  The document: whether lists of values are the same.
-/
import Derived.Test.YtkklmflclmgjeaaGreatDoorSp
set_option linter.unusedVariables false
set_option linter.unusedSimpArgs false
set_option linter.unusedVariables false
set_option linter.unusedSimpArgs false
namespace Go.Proofs.YtkklmflclmgjeaaGreatDoor
open Go.RowKit Go.Shelf Go.Lib
attribute [local go_sem] Oper.semAt_some

theorem vrby_any (t : Bool) (w : World) : Calls Tryz.prog 95 #[.bool t] w fun e w' => (∃ r : Int, e = .returned (.int .i64 r) ∧ r ≠ 0) ∧ w = w' := by
  cases t
  · go_enter Tryz.func95, Tryz.ntmps95
    go_wp2
    go_ret
    exact ⟨⟨1, rfl, by decide⟩, rfl⟩
  · go_enter Tryz.func95, Tryz.ntmps95
    go_wp2
    go_ret
    exact ⟨⟨-1, rfl, by decide⟩, rfl⟩
set_option maxHeartbeats 2000000 in
theorem vrOrder_any (x y : Val) (w : World) : Calls Tryz.prog 94 #[x.v, y.v] w fun e w' => (∃ r : Int, e = .returned (.int .i64 r) ∧ (r = 0 ↔ x = y)) ∧ Bel w w' := by
  obtain ⟨k, n, u, b⟩ := x
  obtain ⟨k', n', u', b'⟩ := y
  unfold Val.v
  dsimp only
  by_cases h1 : k = k'
  · subst h1
    by_cases h2 : n = n'
    · subst h2
      by_cases h3 : u = u'
      · subst h3
        by_cases h4 : b = b'
        · subst h4
          go_enter Tryz.func94, Tryz.ntmps94
          go_wp2_with fail
          go_ret
          exact ⟨⟨0, rfl, by simp⟩, by (repeat (first | exact Below.refl _ _ | assumption | exact Bel.refl _ | refine Bel.alloc ?_ _ | refine Bel.drew ?_ | refine Bel.drewN ?_ _ | refine Bel.then_ ?_ (by assumption) | refine Bel.setCell ?_ (by first | (simp; done) | (simp; omega)) _))⟩
        · have hs : (b.toList == b'.toList) = false := by rw [str_beq]; exact decide_eq_false h4
          have HN : Hid (¬ ((⟨k, n, u, b⟩ : Val) = ⟨k, n, u, b'⟩)) := fun e => h4 (by injection e)
          clear h4
          go_enter Tryz.func94, Tryz.ntmps94
          go_wp2_with (go_at_call 95; refine (vrby_any _ _).mono ?_; rintro e w' ⟨⟨r, rfl, hr⟩, rfl⟩)
          go_ret
          exact ⟨⟨r, rfl, by constructor <;> intro h <;> first | exact absurd h hr | exact absurd h HN.out⟩, by (repeat (first | exact Below.refl _ _ | assumption | exact Bel.refl _ | refine Bel.alloc ?_ _ | refine Bel.drew ?_ | refine Bel.drewN ?_ _ | refine Bel.then_ ?_ (by assumption) | refine Bel.setCell ?_ (by first | (simp; done) | (simp; omega)) _))⟩
      · have hb : (u == u') = false := by rw [beq_eq_false_iff_ne]; exact h3
        have HN : Hid (¬ ((⟨k, n, u, b⟩ : Val) = ⟨k, n, u', b'⟩)) := fun e => h3 (by injection e)
        go_enter Tryz.func94, Tryz.ntmps94
        go_wp2_with (go_at_call 95; refine (vrby_any _ _).mono ?_; rintro e w' ⟨⟨r, rfl, hr⟩, rfl⟩)
        go_ret
        exact ⟨⟨r, rfl, by constructor <;> intro h <;> first | exact absurd h hr | exact absurd h HN.out⟩, by (repeat (first | exact Below.refl _ _ | assumption | exact Bel.refl _ | refine Bel.alloc ?_ _ | refine Bel.drew ?_ | refine Bel.drewN ?_ _ | refine Bel.then_ ?_ (by assumption) | refine Bel.setCell ?_ (by first | (simp; done) | (simp; omega)) _))⟩
    · have hb : (n == n') = false := by rw [beq_eq_false_iff_ne]; exact h2
      have HN : Hid (¬ ((⟨k, n, u, b⟩ : Val) = ⟨k, n', u', b'⟩)) := fun e => h2 (by injection e)
      go_enter Tryz.func94, Tryz.ntmps94
      go_wp2_with (go_at_call 95; refine (vrby_any _ _).mono ?_; rintro e w' ⟨⟨r, rfl, hr⟩, rfl⟩)
      go_ret
      exact ⟨⟨r, rfl, by constructor <;> intro h <;> first | exact absurd h hr | exact absurd h HN.out⟩, by (repeat (first | exact Below.refl _ _ | assumption | exact Bel.refl _ | refine Bel.alloc ?_ _ | refine Bel.drew ?_ | refine Bel.drewN ?_ _ | refine Bel.then_ ?_ (by assumption) | refine Bel.setCell ?_ (by first | (simp; done) | (simp; omega)) _))⟩
  · have hb : (k == k') = false := by rw [beq_eq_false_iff_ne]; exact h1
    have HN : Hid (¬ ((⟨k, n, u, b⟩ : Val) = ⟨k', n', u', b'⟩)) := fun e => h1 (by injection e)
    go_enter Tryz.func94, Tryz.ntmps94
    go_wp2_with (go_at_call 95; refine (vrby_any _ _).mono ?_; rintro e w' ⟨⟨r, rfl, hr⟩, rfl⟩)
    go_ret
    exact ⟨⟨r, rfl, by constructor <;> intro h <;> first | exact absurd h hr | exact absurd h HN.out⟩, by (repeat (first | exact Below.refl _ _ | assumption | exact Bel.refl _ | refine Bel.alloc ?_ _ | refine Bel.drew ?_ | refine Bel.drewN ?_ _ | refine Bel.then_ ?_ (by assumption) | refine Bel.setCell ?_ (by first | (simp; done) | (simp; omega)) _))⟩
set_option maxRecDepth 100000 in
set_option maxHeartbeats 4000000 in
theorem vrLists_any (va vb : Value) (a b : List Val) (w : World) (ha : ValsAt w va a) (hb : ValsAt w vb b) : Calls Tryz.prog 54 #[va, vb] w fun e w' => (∃ r : Int, e = .returned (.int .i64 r) ∧ (r = 0 ↔ a = b)) ∧ Bel w w' := by
  obtain ⟨Aa, ca, rfl, hca, hma, hra⟩ := ha
  obtain ⟨Ab, cb, rfl, hcb, hmb, hrb⟩ := hb
  have haI : (a.length : Int) ≤ 9223372036854775807 := by unfold maxLen at hma; omega
  have hbI : (b.length : Int) ≤ 9223372036854775807 := by unfold maxLen at hmb; omega
  have HRA := Lib.hid hra
  have HRB := Lib.hid hrb
  clear hra hrb hma hmb hca hcb
  go_enter Tryz.func54, Tryz.ntmps54
  go_wp2
  go_loopw [5] (fun i wr => ∃ k : Nat, k ≤ a.length ∧ k ≤ b.length ∧ i = .int .i64 k ∧ Hid (Bel w wr) ∧ Hid (a.take k = b.take k)) (fun i _ => a.length - (intOf i).toNat)
  case atStart => exact ⟨0, Nat.zero_le _, Nat.zero_le _, rfl, Bel.refl w, by show _ = _; simp⟩
  case round =>
    obtain ⟨k, hk, hkb, rfl, HB, HT⟩ := hrel
    by_cases hlt : k < a.length ∧ k < b.length
    · obtain ⟨hla, hlb⟩ := hlt
      obtain ⟨x, hx⟩ : ∃ x, a[k]? = some x := ⟨_, List.getElem?_eq_getElem hla⟩
      obtain ⟨y, hy⟩ : ∃ y, b[k]? = some y := ⟨_, List.getElem?_eq_getElem hlb⟩
      obtain ⟨ba, oa, rfl, hai⟩ := HRA.out (by omega)
      obtain ⟨bb, ob, rfl, hbi⟩ := HRB.out (by omega)
      obtain ⟨q0, q1, q2, q3⟩ := hai k x hx
      obtain ⟨r0, r1, r2, r3⟩ := hbi k y hy
      have hkI : (k : Int) < a.length := by omega
      have hkJ : (k : Int) < b.length := by omega
      have HS : Hid (∀ V, Bel wr V → (fun V : World => V.cell? ⟨ba, oa + k * 4, none⟩ = some (.int .i64 x.k) ∧ V.cell? ⟨ba, oa + k * 4 + 1, none⟩ = some (.int .i64 x.n) ∧ V.cell? ⟨ba, oa + k * 4 + 2, none⟩ = some (.int .u64 x.u) ∧ V.cell? ⟨ba, oa + k * 4 + 3, none⟩ = some (.string x.b) ∧ V.cell? ⟨bb, ob + k * 4, none⟩ = some (.int .i64 y.k) ∧ V.cell? ⟨bb, ob + k * 4 + 1, none⟩ = some (.int .i64 y.n) ∧ V.cell? ⟨bb, ob + k * 4 + 2, none⟩ = some (.int .u64 y.u) ∧ V.cell? ⟨bb, ob + k * 4 + 3, none⟩ = some (.string y.b)) V) := fun V h =>
        ⟨(HB.out.then_ h).c q0, (HB.out.then_ h).c q1, (HB.out.then_ h).c q2, (HB.out.then_ h).c q3, (HB.out.then_ h).c r0, (HB.out.then_ h).c r1, (HB.out.then_ h).c r2, (HB.out.then_ h).c r3⟩
      have HNX : Hid (x = y → a.take (k + 1) = b.take (k + 1)) := fun e => by rw [List.take_add_one, List.take_add_one, hx, hy, HT.out, e]
      have HNO : Hid (¬ x = y → ¬ a = b) := fun e h => e (by rw [h, hy] at hx; exact (Option.some.inj hx).symm)
      have HOR := Lib.hid (fun V => vrOrder_any x y V)
      have HKK : Hid (k + 1 ≤ a.length ∧ k + 1 ≤ b.length) := ⟨hla, hlb⟩
      unfold Val.v at HOR
      clear hx hy hai hbi q0 q1 q2 q3 r0 r1 r2 r3
      go_wp2
      refine wp_region_noPanic ?_
      refine wp_region_held_drew (S := (fun V : World => V.cell? ⟨ba, oa + k * 4, none⟩ = some (.int .i64 x.k) ∧ V.cell? ⟨ba, oa + k * 4 + 1, none⟩ = some (.int .i64 x.n) ∧ V.cell? ⟨ba, oa + k * 4 + 2, none⟩ = some (.int .u64 x.u) ∧ V.cell? ⟨ba, oa + k * 4 + 3, none⟩ = some (.string x.b) ∧ V.cell? ⟨bb, ob + k * 4, none⟩ = some (.int .i64 y.k) ∧ V.cell? ⟨bb, ob + k * 4 + 1, none⟩ = some (.int .i64 y.n) ∧ V.cell? ⟨bb, ob + k * 4 + 2, none⟩ = some (.int .u64 y.u) ∧ V.cell? ⟨bb, ob + k * 4 + 3, none⟩ = some (.string y.b))) (by kernel_rfl) ?_ (fun hHr1_0 => ?_)
      · (try dsimp only); (first | assumption | exact HS.out _ (Bel.refl _).drew | exact HS.out _ (Bel.then_ (Bel.refl _).drew hb7))
      refine wpAnyH_take (i := 0) (oi := _) (v := ?vr1_1_0) rfl (by kernel_rfl) (by kernel_rfl) (by kernel_rfl) ?hqr1_1_0 (Or.inl ⟨by kernel_rfl, ?hyr1_1_0⟩) (by assumption) ?restr1_1_0
      case hqr1_1_0 => exact fun _ _ _ h => h
      case hyr1_1_0 => (intro w hSw; (try dsimp only at hSw); go_simp; try with_reducible rfl)
      try simp only [Act.put, List.getElem_toArray, List.getElem_cons_succ, List.getElem_cons_zero, List.setIfInBounds_toArray, List.set_cons_zero, List.set_cons_succ]
      refine wpAnyH_take (i := 1) (oi := _) (v := ?vr1_1_1) rfl (by kernel_rfl) (by kernel_rfl) (by kernel_rfl) ?hqr1_1_1 (Or.inl ⟨by kernel_rfl, ?hyr1_1_1⟩) (by assumption) ?restr1_1_1
      case hqr1_1_1 => exact fun _ _ _ h => h
      case hyr1_1_1 => (intro w hSw; (try dsimp only at hSw); go_simp; try with_reducible rfl)
      try simp only [Act.put, List.getElem_toArray, List.getElem_cons_succ, List.getElem_cons_zero, List.setIfInBounds_toArray, List.set_cons_zero, List.set_cons_succ]
      refine wpAnyH_take (i := 2) (oi := _) (v := ?vr1_1_2) rfl (by kernel_rfl) (by kernel_rfl) (by kernel_rfl) ?hqr1_1_2 (Or.inl ⟨by kernel_rfl, ?hyr1_1_2⟩) (by assumption) ?restr1_1_2
      case hqr1_1_2 => exact fun _ _ _ h => h
      case hyr1_1_2 => (intro w hSw; (try dsimp only at hSw); go_simp; try with_reducible rfl)
      try simp only [Act.put, List.getElem_toArray, List.getElem_cons_succ, List.getElem_cons_zero, List.setIfInBounds_toArray, List.set_cons_zero, List.set_cons_succ]
      refine wpAnyH_take (i := 3) (oi := _) (v := ?vr1_1_3) rfl (by kernel_rfl) (by kernel_rfl) (by kernel_rfl) ?hqr1_1_3 (Or.inl ⟨by kernel_rfl, ?hyr1_1_3⟩) (by assumption) ?restr1_1_3
      case hqr1_1_3 => exact fun _ _ _ h => h
      case hyr1_1_3 => (intro w hSw; (try dsimp only at hSw); go_simp; try with_reducible rfl)
      try simp only [Act.put, List.getElem_toArray, List.getElem_cons_succ, List.getElem_cons_zero, List.setIfInBounds_toArray, List.set_cons_zero, List.set_cons_succ]
      refine wpAnyH_take (i := 4) (oi := _) (v := ?vr1_1_4) rfl (by kernel_rfl) (by kernel_rfl) (by kernel_rfl) ?hqr1_1_4 (Or.inl ⟨by kernel_rfl, ?hyr1_1_4⟩) (by assumption) ?restr1_1_4
      case hqr1_1_4 => exact fun _ _ _ h => h
      case hyr1_1_4 => (intro w hSw; (try dsimp only at hSw); go_simp; try with_reducible rfl)
      try simp only [Act.put, List.getElem_toArray, List.getElem_cons_succ, List.getElem_cons_zero, List.setIfInBounds_toArray, List.set_cons_zero, List.set_cons_succ]
      refine wpAnyH_take (i := 5) (oi := _) (v := ?vr1_1_5) rfl (by kernel_rfl) (by kernel_rfl) (by kernel_rfl) ?hqr1_1_5 (Or.inl ⟨by kernel_rfl, ?hyr1_1_5⟩) (by assumption) ?restr1_1_5
      case hqr1_1_5 => exact fun _ _ _ h => h
      case hyr1_1_5 => (intro w hSw; (try dsimp only at hSw); go_simp; try with_reducible rfl)
      try simp only [Act.put, List.getElem_toArray, List.getElem_cons_succ, List.getElem_cons_zero, List.setIfInBounds_toArray, List.set_cons_zero, List.set_cons_succ]
      refine wpAnyH_take (i := 6) (oi := _) (v := ?vr1_1_6) rfl (by kernel_rfl) (by kernel_rfl) (by kernel_rfl) ?hqr1_1_6 (Or.inl ⟨by kernel_rfl, ?hyr1_1_6⟩) (by assumption) ?restr1_1_6
      case hqr1_1_6 => exact fun _ _ _ h => h
      case hyr1_1_6 => (intro w hSw; (try dsimp only at hSw); go_simp; try with_reducible rfl)
      try simp only [Act.put, List.getElem_toArray, List.getElem_cons_succ, List.getElem_cons_zero, List.setIfInBounds_toArray, List.set_cons_zero, List.set_cons_succ]
      refine wpAnyH_take (i := 7) (oi := _) (v := ?vr1_1_7) rfl (by kernel_rfl) (by kernel_rfl) (by kernel_rfl) ?hqr1_1_7 (Or.inl ⟨by kernel_rfl, ?hyr1_1_7⟩) (by assumption) ?restr1_1_7
      case hqr1_1_7 => exact fun _ _ _ h => h
      case hyr1_1_7 => (intro w hSw; (try dsimp only at hSw); go_simp; try with_reducible rfl)
      try simp only [Act.put, List.getElem_toArray, List.getElem_cons_succ, List.getElem_cons_zero, List.setIfInBounds_toArray, List.set_cons_zero, List.set_cons_succ]
      refine wpAnyH_ready (rs := [8]) (by kernel_rfl) (by simp) ?_
      refine AllReadyH.cons (o := _) rfl (fun K hK => ?_) AllReadyH.nil
      go_simp
      (go_at_call 94; refine (HOR.out _).mono ?_; rintro e w7 ⟨⟨r, rfl, hr⟩, hb7⟩)
      try (go_wp2_with fail)
      refine hK.out _ _ ?_ (fun hHr1_1 => ?_)
      · (try dsimp only); (first | assumption | exact HS.out _ (Bel.refl _).drew | exact HS.out _ (Bel.then_ (Bel.refl _).drew hb7))
      clear hK K hHr1_0
      try simp only [Act.put, List.getElem_toArray, List.getElem_cons_succ, List.getElem_cons_zero, List.setIfInBounds_toArray, List.set_cons_zero, List.set_cons_succ]
      refine wpAnyH_take (i := 9) (oi := _) (v := ?vr1_1_9) rfl (by kernel_rfl) (by kernel_rfl) (by kernel_rfl) ?hqr1_1_9 (Or.inl ⟨by kernel_rfl, ?hyr1_1_9⟩) (by assumption) ?restr1_1_9
      case hqr1_1_9 => exact fun _ _ _ h => h
      case hyr1_1_9 => (intro w hSw; (try dsimp only at hSw); go_simp; try with_reducible rfl)
      try simp only [Act.put, List.getElem_toArray, List.getElem_cons_succ, List.getElem_cons_zero, List.setIfInBounds_toArray, List.set_cons_zero, List.set_cons_succ]
      refine wpAnyH_done (by kernel_rfl) ?_ _
      refine NoPanic.normal ?_
      have HB7 := Lib.hid (HB.out.then_ ((Bel.refl wr).drew.then_ hb7))
      clear hb7 hHr1_1
      have HRR := Lib.hid hr
      clear hr
      by_cases h0 : r = 0
      · have ht := Lib.hid (HNX.out (HRR.out.1 h0))
        subst h0
        go_wp2
        go_roundw
        case rel => exact ⟨k + 1, HKK.out.1, HKK.out.2, by go_num, HB7.out, ht.out⟩
        case measure => have := HKK.out; simp [intOf]; omega
      · have hkb : (r != 0) = true := by rw [bne_iff_ne]; exact h0
        have hf := Lib.hid (HNO.out (fun e => h0 (HRR.out.2 e)))
        go_wp2
        go_ret
        exact ⟨⟨r, rfl, by constructor <;> intro h <;> first | exact absurd h h0 | exact absurd h hf.out⟩, HB7.out⟩
    · by_cases hab : a.length = b.length
      · have hkE : k = a.length := by omega
        subst hkE
        have HEQ : Hid (a = b) := by show _ = _; have := HT.out; rwa [List.take_length, hab, List.take_length] at this
        have habI : (a.length : Int) = b.length := by omega
        have hl2 : decide ((a.length : Int) < a.length) = false := by simp
        clear hlt HT hk hkb
        rw [habI] at *
        go_wp2
        all_goals
          go_ret
          exact ⟨⟨0, rfl, by constructor <;> intro _ <;> first | exact HEQ.out | rfl⟩, HB.out⟩
      · have HN : Hid (¬ a = b) := fun e => hab (by rw [e])
        have habI : ((a.length : Int) == b.length) = false := by rw [beq_eq_false_iff_ne]; omega
        by_cases hka : k < a.length
        · have hkE : k = b.length := by omega
          subst hkE
          have h1 : (b.length : Int) < a.length := by omega
          go_wp2_with (go_at_call 95; refine (vrby_any _ _).mono ?_; rintro e w' ⟨⟨r, rfl, hr⟩, rfl⟩)
          go_ret
          exact ⟨⟨r, rfl, by constructor <;> intro h <;> first | exact absurd h hr | exact absurd h HN.out⟩, HB.out⟩
        · have hkE : k = a.length := by omega
          subst hkE
          go_wp2_with (go_at_call 95; refine (vrby_any _ _).mono ?_; rintro e w' ⟨⟨r, rfl, hr⟩, rfl⟩)
          go_ret
          exact ⟨⟨r, rfl, by constructor <;> intro h <;> first | exact absurd h hr | exact absurd h HN.out⟩, HB.out⟩
theorem vrSame_any (va vb : Value) (a b : List Val) (w : World) (ha : ValsAt w va a) (hb : ValsAt w vb b) : Calls Tryz.prog 22 #[va, vb] w fun e w' => e = .returned (.bool (decide (a = b))) ∧ Bel w w' := by
  have HL := Lib.hid (vrLists_any va vb a b w ha hb)
  obtain ⟨Aa, ca, rfl, -⟩ := ha
  obtain ⟨Ab, cb, rfl, -⟩ := hb
  obtain ⟨R, hR⟩ : ∃ R, R = decide (a = b) := ⟨_, rfl⟩
  rw [← hR]
  have HR := Lib.hid hR
  clear hR
  go_enter Tryz.func22, Tryz.ntmps22
  go_wp2_with fail
  refine HL.out.mono ?_
  rintro e w' ⟨⟨r, rfl, hr⟩, hb⟩
  have HB := Lib.hid hb
  have HRR : Hid (R = (r == 0)) := by show _ = _; rw [HR.out]; by_cases h : a = b <;> simp [h, hr]
  clear hr hb HL
  go_wp2
  go_ret
  exact ⟨by rw [HRR.out]; rfl, HB.out⟩
end Go.Proofs.YtkklmflclmgjeaaGreatDoor
