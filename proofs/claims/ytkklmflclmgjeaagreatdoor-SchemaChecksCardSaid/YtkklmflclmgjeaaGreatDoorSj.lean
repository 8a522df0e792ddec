/-
  Schema: which schemas may be.
-/
import Derived.Test.YtkklmflclmgjeaaGreatDoorSi
set_option linter.unusedVariables false
set_option linter.unusedSimpArgs false
set_option linter.unusedVariables false
set_option linter.unusedSimpArgs false
namespace Go.Proofs.YtkklmflclmgjeaaGreatDoor
open Go.RowKit Go.Shelf Go.Lib
attribute [local go_sem] Oper.semAt_some

theorem str_eq (a b : ByteArray) (w : World) : (binOp .eql 9 (.string a) (.string b)).run Tryz.prog w = .ok (.bool (decide (a = b))) w := by
  go_simp
  by_cases h : a = b
  · simp [h]
  · simp [h, bytes_eq_iff]
theorem str_beq (a b : ByteArray) : (a.toList == b.toList) = decide (a = b) := by by_cases h : a = b <;> simp [h, bytes_eq_iff]
theorem lookCa_any (o : Col) (nm : ByteArray) (bc : Nat) (w : World) (h : w.cell? ⟨bc, 0, none⟩ = some (.string nm)) : Calls Tryz.prog 102 #[o.v, .pointer (some ⟨bc, 0, none⟩)] w fun e w' => e = .returned (.bool (decide (o.name = nm))) ∧ Bel w w' := by
  obtain ⟨name, t, z, null⟩ := o
  have hlt := World.block_lt_of_cell? (w := w) (a := ⟨bc, 0, none⟩) h
  have hne : w.heap.size ≠ bc := by simp at hlt; omega
  have hse := fun W => str_eq name nm W
  unfold Col.v
  dsimp only
  go_enter Tryz.func102, Tryz.ntmps102
  go_wp2
  go_ret
  exact ⟨congrArg (fun x => Ending.returned (Value.bool x)) (str_beq name nm), by (repeat (first | exact Below.refl _ _ | assumption | exact Bel.refl _ | refine Bel.alloc ?_ _ | refine Bel.drew ?_ | refine Bel.drewN ?_ _ | refine Bel.then_ ?_ (by assumption) | refine Bel.setCell ?_ (by first | (simp; done) | (simp; omega)) _))⟩
theorem lookCb_any (vc : Value) (cols : List Col) (i : Nat) (x : Col) (hx : cols[i]? = some x) (bl : Nat) (w : World) (h : w.cell? ⟨bl, 0, none⟩ = some vc) (hv : ColsAt w vc cols) : Calls Tryz.prog 103 #[.int .i64 i, .pointer (some ⟨bl, 0, none⟩)] w fun e w' => e = .returned (.bool x.null) ∧ Bel w w' := by
  obtain ⟨A, c, rfl, hcl, hm, hr⟩ := hv
  have hlt := (List.getElem?_eq_some_iff.1 hx).1
  obtain ⟨b, off, rfl, hi⟩ := hr (by omega)
  obtain ⟨q0, q1, q2, q3⟩ := hi i x hx
  have hiI : (i : Int) < cols.length := by omega
  have hlI : (cols.length : Int) ≤ 9223372036854775807 := by unfold maxLen at hm; omega
  clear hi hr hx
  go_enter Tryz.func103, Tryz.ntmps103
  go_wp2
  go_ret
  exact ⟨by first | rfl | trivial, by (repeat (first | exact Below.refl _ _ | assumption | exact Bel.refl _ | refine Bel.alloc ?_ _ | refine Bel.drew ?_ | refine Bel.drewN ?_ _ | refine Bel.then_ ?_ (by assumption) | refine Bel.setCell ?_ (by first | (simp; done) | (simp; omega)) _))⟩
theorem lookCc_any (Ac : Option Addr) (many cc : Nat) (hmany : many ≤ maxLen) (vk vu v : Value) (l : List Int) (bl : Nat) (w : World) (h0 : w.cell? ⟨bl, 0, none⟩ = some (.slice Ac many cc)) (h1 : w.cell? ⟨bl, 1, none⟩ = some vk) (h2 : w.cell? ⟨bl, 2, none⟩ = some vu) (h : IntsAt w v l) : Calls Tryz.prog 106 #[v, .pointer (some ⟨bl, 0, none⟩)] w fun e w' => e = .returned (.bool (!setB l many)) ∧ Bel w w' := by
  have HS := Lib.hid (lookset_any Ac many cc hmany vk vu v l w h)
  obtain ⟨A, c, rfl, -⟩ := h
  go_enter Tryz.func106, Tryz.ntmps106
  go_wp2_with (go_at_call 100; refine HS.out.mono ?_; rintro e w4 ⟨rfl, hb4⟩)
  go_ret
  exact ⟨rfl, hb4⟩
def colB (cols : List Col) (i : Nat) : Bool := match cols[i]? with
  | some c => rightB c && !(cols.take i).any (fun o => decide (o.name = c.name))
  | none => false
def nullAt (cols : List Col) (n : Int) : Bool := match cols[n.toNat]? with
  | some c => c.null
  | none => false
theorem setB_in {l : List Int} {many : Int} (h : setB l many = true) : ∀ x ∈ l, 0 ≤ x ∧ x < many := by
  intro x hx
  obtain ⟨i, hi⟩ := List.mem_iff_getElem?.1 hx
  have hlt := (List.getElem?_eq_some_iff.1 hi).1
  unfold setB at h
  rw [Bool.and_eq_true, List.all_eq_true] at h
  have := of_decide_eq_true (h.2 i (List.mem_range.2 hlt))
  have hg : l.getD i 0 = x := by simp [List.getD, hi]
  rw [hg] at this
  exact ⟨this.1, this.2.1⟩
/-- May a schema be? -/
def rightS (cols : List Col) (key : List Int) (uq : List (List Int)) : Bool := decide (1 ≤ cols.length ∧ cols.length ≤ 8 ∧ uq.length ≤ 3) && (setB key cols.length && ((List.range cols.length).all (colB cols) && (!key.any (nullAt cols) && !uq.any (fun l => !setB l cols.length))))
set_option maxRecDepth 100000 in
set_option maxHeartbeats 4000000 in
theorem lookright_any (vc vk vu : Value) (cols : List Col) (key : List Int) (uq : List (List Int)) (w : World) (hc : ColsAt w vc cols) (hk : IntsAt w vk key) (hu : ListsAt w vu uq) : Calls Tryz.prog 60 #[.agg #[vc, vk, vu]] w fun e w' => e = .returned (.bool (rightS cols key uq)) ∧ Bel w w' := by
  obtain ⟨R, hR⟩ : ∃ R, R = rightS cols key uq := ⟨_, rfl⟩
  rw [← hR]
  have HR := Lib.hid hR
  clear hR
  have HC := Lib.hid hc
  have HK := Lib.hid hk
  have HU := Lib.hid hu
  obtain ⟨Ac, cc, rfl, hcc, hmc, hrc⟩ := hc
  obtain ⟨Au, cu, rfl, hcu, hmu, hru⟩ := hu
  have HRC := Lib.hid hrc
  have HLS := Lib.hid (fun V (hb : Bel w V) v l (h : IntsAt V v l) => lookset_any Ac cols.length cc (by omega) vk (.slice Au uq.length cu) v l V h)
  have hnI : (cols.length : Int) ≤ 9223372036854775807 := by unfold maxLen at hmc; omega
  have huI : (uq.length : Int) ≤ 9223372036854775807 := by unfold maxLen at hmu; omega
  have hccI : (cols.length : Int) ≤ cc := by omega
  have HMC : Hid (cols.length ≤ maxLen) := by show _ ≤ _; omega
  clear hrc hru hk hmu hmc
  by_cases h1 : 1 ≤ cols.length ∧ cols.length ≤ 8 ∧ uq.length ≤ 3
  · have b1 : decide ((cols.length : Int) < 1) = false := by simp; omega
    have b2 : decide ((8 : Int) < cols.length) = false := by simp; omega
    have b3 : decide ((3 : Int) < uq.length) = false := by simp; omega
    cases hsb : setB key cols.length with
    | false =>
      have hf : R = false := by rw [HR.out]; unfold rightS; rw [hsb]; simp
      obtain ⟨R', hR'⟩ : ∃ R', R' = setB key cols.length := ⟨_, rfl⟩
      have HLS2 := Lib.hid (fun V (hb : Bel w V) => HLS.out V hb _ _ (HK.out.bel hb))
      rw [hsb] at HLS2
      subst hf
      go_enter Tryz.func60, Tryz.ntmps60
      go_wp2_with (go_at_call 100; refine (HLS2.out _ ((Bel.refl w).alloc _)).mono ?_; rintro e w4 ⟨rfl, hb4⟩)
      go_ret
      exact ⟨rfl, ((Bel.refl w).alloc _).then_ hb4⟩
    | true =>
      have HLS2 := Lib.hid (fun V (hb : Bel w V) => HLS.out V hb _ _ (HK.out.bel hb))
      rw [hsb] at HLS2
      have HSB := Lib.hid hsb
      clear hsb
      go_enter Tryz.func60, Tryz.ntmps60
      go_wp2_with (go_at_call 100; refine (HLS2.out _ ((Bel.refl w).alloc _)).mono ?_; rintro e w4 ⟨rfl, hb4⟩; have hl0 : w4.cell? ⟨w.heap.size, 0, none⟩ = some (.slice Ac cols.length cc) := hb4.c (by go_simp); have hl1 : w4.cell? ⟨w.heap.size, 1, none⟩ = some vk := hb4.c (by go_simp); have hl2 : w4.cell? ⟨w.heap.size, 2, none⟩ = some (.slice Au uq.length cu) := hb4.c (by go_simp); have hw4 : Bel w w4 := ((Bel.refl w).alloc _).then_ hb4)
      obtain ⟨b, off, hA, hci⟩ := HRC.out (by omega)
      subst hA
      have HCI := Lib.hid hci
      have HB4 := Lib.hid hb4
      have HW4 := Lib.hid hw4
      have eg1 : ∀ args w, (callFunc 102 args).run Tryz.prog w = .ok (.enter 102 args) w := enters_of Tryz.func102 (by kernel_rfl) rfl
      have eg2 : ∀ args w, (callFunc 103 args).run Tryz.prog w = .ok (.enter 103 args) w := enters_of Tryz.func103 (by kernel_rfl) rfl
      have eg3 : ∀ args w, (callFunc 106 args).run Tryz.prog w = .ok (.enter 106 args) w := enters_of Tryz.func106 (by kernel_rfl) rfl
      have HL0 := Lib.hid hl0
      have HL1 := Lib.hid hl1
      have HL2 := Lib.hid hl2
      clear hci hb4 hw4 hl0 hl1 hl2 HLS2
      go_loopw [37] (fun i wr => ∃ k : Nat, k ≤ cols.length ∧ i = .int .i64 k ∧ Hid (Bel w4 wr) ∧ Hid (∀ j, j < k → colB cols j = true)) (fun i _ => cols.length - (intOf i).toNat)
      case atStart => exact ⟨0, Nat.zero_le _, rfl, Bel.refl w4, fun j hj => by omega⟩
      case round =>
        obtain ⟨k, hk, rfl, HB, HT⟩ := hrel
        have hl0 := HB.out.c HL0.out
        by_cases hlt : k < cols.length
        · obtain ⟨x, hx⟩ : ∃ x, cols[k]? = some x := ⟨_, List.getElem?_eq_getElem hlt⟩
          obtain ⟨q0, q1, q2, q3⟩ := HCI.out k x hx
          have hbw : Bel w wr := HW4.out.then_ HB.out
          have p0 := hbw.c q0
          have p1 := hbw.c q1
          have p2 := hbw.c q2
          have p3 := hbw.c q3
          have hkI : (k : Int) < cols.length := by omega
          have hkcI : (k : Int) ≤ cc := by omega
          have HCB : Hid (colB cols k = (rightB x && !(cols.take k).any (fun o => decide (o.name = x.name)))) := by show _ = _; unfold colB; rw [hx]
          have HNX : Hid (colB cols k = true → ∀ j, j < k + 1 → colB cols j = true) := fun e j hj => by
            by_cases ej : j = k
            · subst ej; exact e
            · exact HT.out j (by omega)
          have HNO : Hid (colB cols k = false → R = false) := fun e => by
            rw [HR.out]; unfold rightS
            have : (List.range cols.length).all (colB cols) = false := by rw [List.all_eq_false]; exact ⟨k, List.mem_range.2 hlt, by simp [e]⟩
            rw [this]; simp
          have hne : wr.heap.size ≠ w.heap.size := by have h1 := hbw.size; have h2 := (World.block_lt_of_cell? (w := wr) (a := ⟨w.heap.size, 0, none⟩) hl0); simp at h2; omega
          have hbx : Bel wr (wr.alloc (.cells #[.string x.name, .int .i64 x.t, .int .i64 x.z, .bool x.null] 44)) := (Bel.refl wr).alloc _
          have HRI := Lib.hid (scright_any x (wr.alloc (.cells #[.string x.name, .int .i64 x.t, .int .i64 x.z, .bool x.null] 44)))
          have HCF := Lib.hid (fun V (hV : Bel (wr.alloc (.cells #[.string x.name, .int .i64 x.t, .int .i64 x.z, .bool x.null] 44)) V) => slContainsFuncCol_any 102 #[.pointer (some ⟨wr.heap.size, 0, none⟩)] eg1 (fun o => decide (o.name = x.name)) (.slice (some ⟨b, off, none⟩) k cc) (cols.take k) V ((HC.out.bel (hbw.then_ (hbx.then_ hV))).take k hk)
            (fun W hW o ho => lookCa_any o x.name wr.heap.size W ((hV.then_ hW).c (by go_simp))))
          have HBW := Lib.hid hbw
          have HBX := Lib.hid hbx
          have HL0x : Hid ((wr.alloc (.cells #[.string x.name, .int .i64 x.t, .int .i64 x.z, .bool x.null] 44)).cell? ⟨w.heap.size, 0, none⟩ = some (.slice (some ⟨b, off, none⟩) cols.length cc)) := hbx.c hl0
          clear hx q0 q1 q2 q3 hbw hbx
          unfold Col.v at HRI
          cases hrb : rightB x with
          | false =>
            have hf : R = false := HNO.out (by rw [HCB.out, hrb]; rfl)
            rw [hrb] at HRI
            clear hrb
            go_wp2_with (go_at_call 96; refine HRI.out.mono ?_; rintro e w5 ⟨rfl, hb5⟩)
            go_ret
            exact ⟨by first | rfl | (rw [hf]; rfl), HBW.out.then_ (HBX.out.then_ hb5)⟩
          | true =>
            rw [hrb] at HRI HCB
            clear hrb
            cases hdup : (cols.take k).any (fun o => decide (o.name = x.name)) with
            | true =>
              have hf : R = false := HNO.out (by rw [HCB.out, hdup]; rfl)
              rw [hdup] at HCF
              clear hdup
              go_wp2_with (first | (go_at_call 96; refine HRI.out.mono ?_; rintro e w5 ⟨rfl, hb5⟩; have hl5 := hb5.c HL0x.out) | (go_at_call 101; refine (HCF.out _ hb5).mono ?_; rintro e w6 ⟨rfl, hb6⟩))
              go_ret
              exact ⟨by first | rfl | (rw [hf]; rfl), HBW.out.then_ ((HBX.out.then_ hb5).then_ hb6)⟩
            | false =>
              have ht := HNX.out (by rw [HCB.out, hdup]; rfl)
              have HTT := Lib.hid ht
              rw [hdup] at HCF
              clear hdup ht
              go_wp2_with (first | (go_at_call 96; refine HRI.out.mono ?_; rintro e w5 ⟨rfl, hb5⟩; have hl5 := hb5.c HL0x.out) | (go_at_call 101; refine (HCF.out _ hb5).mono ?_; rintro e w6 ⟨rfl, hb6⟩))
              go_roundw
              case rel => exact ⟨k + 1, by omega, by go_num, HB.out.then_ ((HBX.out.then_ hb5).then_ hb6), HTT.out⟩
              case measure => simp [intOf]; omega
        · obtain rfl : k = cols.length := by omega
          have hl1 := HB.out.c HL1.out
          have hl2 := HB.out.c HL2.out
          have HRN : Hid (R = (!key.any (nullAt cols) && !uq.any (fun l => !setB l cols.length))) := by
            show _ = _
            rw [HR.out]; unfold rightS
            have : (List.range cols.length).all (colB cols) = true := by rw [List.all_eq_true]; exact fun i hi => HT.out i (List.mem_range.1 hi)
            rw [decide_eq_true h1, HSB.out, this]; rfl
          clear HT hlt hk
          have hbw : Bel w wr := HW4.out.then_ HB.out
          have HBW := Lib.hid hbw
          have HKF := Lib.hid (slContainsFuncInt_any 103 #[.pointer (some ⟨w.heap.size, 0, none⟩)] eg2 (nullAt cols) vk key wr (HK.out.bel hbw) (fun W hW x hx => by
            obtain ⟨g0, g1⟩ := setB_in HSB.out x hx
            obtain ⟨n, rfl⟩ := Int.eq_ofNat_of_zero_le g0
            have hn : n < cols.length := by omega
            have hcx : cols[n]? = some cols[n] := List.getElem?_eq_getElem hn
            have hnul : nullAt cols (n : Int) = cols[n].null := by unfold nullAt; simp [hcx]
            rw [hnul]
            exact lookCb_any _ cols n cols[n] hcx w.heap.size W (hW.c hl0) (HC.out.bel (hbw.then_ hW))))
          have HUF := Lib.hid (fun V (hV : Bel wr V) => slContainsFuncInts_any 106 #[.pointer (some ⟨w.heap.size, 0, none⟩)] eg3 (fun l => !setB l cols.length) (.slice Au uq.length cu) uq V (HU.out.bel (hbw.then_ hV)) (fun W hW l hl u hu => lookCc_any _ cols.length cc HMC.out vk (.slice Au uq.length cu) u l w.heap.size W ((hV.then_ hW).c hl0) ((hV.then_ hW).c hl1) ((hV.then_ hW).c hl2) hu))
          clear hbw
          cases hkn : key.any (nullAt cols) with
          | true =>
            rw [hkn] at HKF HRN
            clear hkn
            go_wp2_with (go_at_call 104; refine HKF.out.mono ?_; rintro e w5 ⟨rfl, hb5⟩)
            go_ret
            exact ⟨by rw [HRN.out]; rfl, HBW.out.then_ hb5⟩
          | false =>
            rw [hkn] at HKF HRN
            clear hkn
            go_wp2_with (first | (go_at_call 104; refine HKF.out.mono ?_; rintro e w5 ⟨rfl, hb5⟩; have hl5 := hb5.c hl2) | (go_at_call 105; refine (HUF.out _ hb5).mono ?_; rintro e w6 ⟨rfl, hb6⟩))
            go_ret
            exact ⟨by rw [HRN.out]; rfl, HBW.out.then_ (hb5.then_ hb6)⟩
  · have hf : R = false := by rw [HR.out]; unfold rightS; rw [decide_eq_false h1]; rfl
    subst hf
    by_cases n1 : (cols.length : Int) < 1
    · have b4 : decide ((1 : Int) ≤ cols.length) = false := by simp; omega
      go_enter Tryz.func60, Tryz.ntmps60
      go_wp2_with fail
      all_goals
        go_ret
        exact ⟨rfl, by (repeat (first | exact Below.refl _ _ | assumption | exact Bel.refl _ | refine Bel.alloc ?_ _ | refine Bel.drew ?_ | refine Bel.drewN ?_ _ | refine Bel.then_ ?_ (by assumption) | refine Bel.setCell ?_ (by first | (simp; done) | (simp; omega)) _))⟩
    · have n1b : decide ((cols.length : Int) < 1) = false := by simp; omega
      by_cases n2 : (8 : Int) < cols.length
      · go_enter Tryz.func60, Tryz.ntmps60
        go_wp2_with fail
        all_goals
          go_ret
          exact ⟨rfl, by (repeat (first | exact Below.refl _ _ | assumption | exact Bel.refl _ | refine Bel.alloc ?_ _ | refine Bel.drew ?_ | refine Bel.drewN ?_ _ | refine Bel.then_ ?_ (by assumption) | refine Bel.setCell ?_ (by first | (simp; done) | (simp; omega)) _))⟩
      · have n2b : decide ((8 : Int) < cols.length) = false := by simp; omega
        have n3 : (3 : Int) < uq.length := by omega
        go_enter Tryz.func60, Tryz.ntmps60
        go_wp2_with fail
        all_goals
          go_ret
          exact ⟨rfl, by (repeat (first | exact Below.refl _ _ | assumption | exact Bel.refl _ | refine Bel.alloc ?_ _ | refine Bel.drew ?_ | refine Bel.drewN ?_ _ | refine Bel.then_ ?_ (by assumption) | refine Bel.setCell ?_ (by first | (simp; done) | (simp; omega)) _))⟩
end Go.Proofs.YtkklmflclmgjeaaGreatDoor
