/-
  Schema: rows.
-/
import Derived.Test.YtkklmflclmgjeaaGreatDoorSm
set_option linter.unusedVariables false
set_option linter.unusedSimpArgs false
set_option linter.unusedVariables false
set_option linter.unusedSimpArgs false
namespace Go.Proofs.YtkklmflclmgjeaaGreatDoor
open Go.RowKit Go.Shelf Go.Lib
attribute [local go_sem] Oper.semAt_some

/-- An error as row makes it: none, a fault, or a number. -/
def RErr (w : World) (v : Value) (k : Int) : Prop := SErr w v k ∨ v = .iface 32 (.int .i64 k)
theorem rnumber_any {w : World} {v : Value} {k : Int} (hg : ErrType w) (h : RErr w v k) : Calls Tryz.prog 52 #[v] w fun e w' => e = .returned (.int .i64 k) ∧ Bel w w' := by
  rcases h with h | rfl
  · exact scnumber_any hg h
  · exact scnumber_errno k w hg
set_option maxRecDepth 100000 in
set_option maxHeartbeats 4000000 in
theorem scrow_any (vc vk vu vl : Value) (cols : List Col) (l : List Val) (w : World) (hc : ColsAt w vc cols) (hl : ValsAt w vl l) (hw : ∀ x ∈ l, x.Wf) :
    Calls Tryz.prog 53 #[.agg #[vc, vk, vu], vl] w fun e w' => ∃ v, e = .returned v ∧ RErr w' v (rowI cols l) ∧ Bel w w' := by
  obtain ⟨R, hR⟩ : ∃ R, R = rowI cols l := ⟨_, rfl⟩
  rw [← hR]
  have HR := Lib.hid hR
  clear hR
  obtain ⟨Ac, cc, rfl, hcc, hmc, hrc⟩ := hc
  obtain ⟨Al, cl, rfl, hcl, hml, hrl⟩ := hl
  have hnI : (cols.length : Int) ≤ 9223372036854775807 := by unfold maxLen at hmc; omega
  have hlI : (l.length : Int) ≤ 9223372036854775807 := by unfold maxLen at hml; omega
  have HRC := Lib.hid hrc
  have HRL := Lib.hid hrl
  have HWF := Lib.hid hw
  clear hrc hrl hmc hml hw
  by_cases hlen : l.length = cols.length
  · have hle : ((l.length : Int) != cols.length) = false := by rw [bne_eq_false_iff_eq]; omega
    have HLEN := Lib.hid hlen
    have HRV : Hid (R = firstNZ (fitAt cols l) 0 l.length) := by show _ = _; rw [HR.out]; unfold rowI; rw [if_neg (by simpa using hlen)]
    clear hlen HR
    go_enter Tryz.func53, Tryz.ntmps53
    go_wp2
    go_loopw [17] (fun i wr => ∃ k : Nat, k ≤ l.length ∧ i = .int .i64 k ∧ Hid (Bel (w.alloc (.cells #[.slice Ac cols.length cc, vk, vu] 26)) wr) ∧ Hid (∀ j, j < k → fitAt cols l j = 0)) (fun i _ => l.length - (intOf i).toNat)
    case atStart => exact ⟨0, Nat.zero_le _, rfl, Bel.refl _, fun j hj => by omega⟩
    case round =>
      obtain ⟨k, hk, rfl, HB, HT⟩ := hrel
      by_cases hlt : k < l.length
      · obtain ⟨y, hy⟩ : ∃ y, l[k]? = some y := ⟨_, List.getElem?_eq_getElem hlt⟩
        obtain ⟨x, hx⟩ : ∃ x, cols[k]? = some x := ⟨_, List.getElem?_eq_getElem (by have := HLEN.out; omega)⟩
        obtain ⟨bl, ol, rfl, hli⟩ := HRL.out (by omega)
        obtain ⟨b, off, rfl, hci⟩ := HRC.out (by have := HLEN.out; omega)
        obtain ⟨q0, q1, q2, q3⟩ := hci k x hx
        obtain ⟨r0, r1, r2, r3⟩ := hli k y hy
        have hbw : Bel w wr := ((Bel.refl w).alloc _).then_ HB.out
        have p0 := hbw.c r0
        have p1 := hbw.c r1
        have p2 := hbw.c r2
        have p3 := hbw.c r3
        have hkI : (k : Int) < l.length := by omega
        have hkc : (k : Int) < cols.length := by have := HLEN.out; omega
        have hfa : fitAt cols l k = fitsI x y := by unfold fitAt; rw [hx, hy]
        have HNX : Hid (fitsI x y = 0 → ∀ j, j < k + 1 → fitAt cols l j = 0) := fun e j hj => by
          by_cases ej : j = k
          · subst ej; rw [hfa]; exact e
          · exact HT.out j (by omega)
        have HNO : Hid (fitsI x y ≠ 0 → R = fitsI x y) := fun e => by
          rw [HRV.out, firstNZ_hit (fitAt cols l) k (by rw [hfa]; exact e) l.length 0 (Nat.zero_le _) (by omega) (fun j _ h => HT.out j h), hfa]
        have hb6 : Bel wr (wr.alloc (.cells #[.int .i64 y.k, .int .i64 y.n, .int .u64 y.u, .string y.b] 48)) := (Bel.refl wr).alloc _
        have HS : Hid (∀ V, Bel (wr.alloc (.cells #[.int .i64 y.k, .int .i64 y.n, .int .u64 y.u, .string y.b] 48)) V → (fun V : World => V.cell? ⟨w.heap.size, 0, none⟩ = some (.slice (some ⟨b, off, none⟩) cols.length cc) ∧ V.cell? ⟨b, off + k * 4, none⟩ = some (.string x.name) ∧ V.cell? ⟨b, off + k * 4 + 1, none⟩ = some (.int .i64 x.t) ∧ V.cell? ⟨b, off + k * 4 + 2, none⟩ = some (.int .i64 x.z) ∧ V.cell? ⟨b, off + k * 4 + 3, none⟩ = some (.bool x.null) ∧ V.cell? ⟨wr.heap.size, 0, none⟩ = some (.int .i64 y.k) ∧ V.cell? ⟨wr.heap.size, 1, none⟩ = some (.int .i64 y.n) ∧ V.cell? ⟨wr.heap.size, 2, none⟩ = some (.int .u64 y.u) ∧ V.cell? ⟨wr.heap.size, 3, none⟩ = some (.string y.b)) V) := fun V h =>
          ⟨((HB.out.then_ hb6).then_ h).c (by go_simp), ((hbw.then_ hb6).then_ h).c q0, ((hbw.then_ hb6).then_ h).c q1, ((hbw.then_ hb6).then_ h).c q2, ((hbw.then_ hb6).then_ h).c q3, h.c (by go_simp), h.c (by go_simp), h.c (by go_simp), h.c (by go_simp)⟩
        have HF := Lib.hid (fun V => scfits_any x y (HWF.out y (List.mem_of_getElem? hy)) V)
        have HB6 := Lib.hid (HB.out.then_ hb6)
        have HLT := Lib.hid hlt
        unfold Val.v Col.v at HF
        clear hx hy hci hli q0 q1 q2 q3 r0 r1 r2 r3 hbw hb6 hfa
        generalize fitsI x y = fi at *
        go_wp2
        refine wp_region_noPanic ?_
        refine wp_region_held_drew (S := (fun V : World => V.cell? ⟨w.heap.size, 0, none⟩ = some (.slice (some ⟨b, off, none⟩) cols.length cc) ∧ V.cell? ⟨b, off + k * 4, none⟩ = some (.string x.name) ∧ V.cell? ⟨b, off + k * 4 + 1, none⟩ = some (.int .i64 x.t) ∧ V.cell? ⟨b, off + k * 4 + 2, none⟩ = some (.int .i64 x.z) ∧ V.cell? ⟨b, off + k * 4 + 3, none⟩ = some (.bool x.null) ∧ V.cell? ⟨wr.heap.size, 0, none⟩ = some (.int .i64 y.k) ∧ V.cell? ⟨wr.heap.size, 1, none⟩ = some (.int .i64 y.n) ∧ V.cell? ⟨wr.heap.size, 2, none⟩ = some (.int .u64 y.u) ∧ V.cell? ⟨wr.heap.size, 3, none⟩ = some (.string y.b))) (by kernel_rfl) ?_ (fun hHr1_0 => ?_)
        · (try dsimp only); (first | assumption | exact HS.out _ (Bel.refl _).drew | exact HS.out _ (Bel.then_ (Bel.refl _).drew hb7))
        refine wpAnyH_take (i := 0) (oi := _) (v := ?vr1_1_0) rfl (by kernel_rfl) (by kernel_rfl) (by kernel_rfl) ?hqr1_1_0 (Or.inl ⟨by kernel_rfl, ?hyr1_1_0⟩) (by assumption) ?restr1_1_0
        case hqr1_1_0 => exact fun _ _ _ h => h
        case hyr1_1_0 => (intro w hSw; (try dsimp only at hSw); go_simp; try with_reducible rfl)
        try simp only [Act.put, List.getElem_toArray, List.getElem_cons_succ, List.getElem_cons_zero, List.setIfInBounds_toArray, List.set_cons_zero, List.set_cons_succ]
        refine wpAnyH_take (i := 1) (oi := _) (v := ?vr1_1_1) rfl (by kernel_rfl) (by kernel_rfl) (by kernel_rfl) ?hqr1_1_1 (Or.inl ⟨by kernel_rfl, ?hyr1_1_1⟩) (by assumption) ?restr1_1_1
        case hqr1_1_1 => exact fun _ _ _ h => h
        case hyr1_1_1 => (intro w hSw; (try dsimp only at hSw); go_simp; try with_reducible rfl)
        try simp only [Act.put, List.getElem_toArray, List.getElem_cons_succ, List.getElem_cons_zero, List.setIfInBounds_toArray, List.set_cons_zero, List.set_cons_succ]
        refine wpAnyH_take (i := 2) (oi := _) (v := ?vr1_1_2) rfl (by kernel_rfl) (by kernel_rfl) (by kernel_rfl) ?hqr1_1_2 (Or.inl ⟨by kernel_rfl, ?hyr1_1_2⟩) (by assumption) ?restr1_1_2
        case hqr1_1_2 => exact fun _ _ _ h => h
        case hyr1_1_2 => (intro w hSw; (try dsimp only at hSw); go_simp; try with_reducible rfl)
        try simp only [Act.put, List.getElem_toArray, List.getElem_cons_succ, List.getElem_cons_zero, List.setIfInBounds_toArray, List.set_cons_zero, List.set_cons_succ]
        refine wpAnyH_take (i := 3) (oi := _) (v := ?vr1_1_3) rfl (by kernel_rfl) (by kernel_rfl) (by kernel_rfl) ?hqr1_1_3 (Or.inl ⟨by kernel_rfl, ?hyr1_1_3⟩) (by assumption) ?restr1_1_3
        case hqr1_1_3 => exact fun _ _ _ h => h
        case hyr1_1_3 => (intro w hSw; (try dsimp only at hSw); go_simp; try with_reducible rfl)
        try simp only [Act.put, List.getElem_toArray, List.getElem_cons_succ, List.getElem_cons_zero, List.setIfInBounds_toArray, List.set_cons_zero, List.set_cons_succ]
        refine wpAnyH_take (i := 4) (oi := _) (v := ?vr1_1_4) rfl (by kernel_rfl) (by kernel_rfl) (by kernel_rfl) ?hqr1_1_4 (Or.inl ⟨by kernel_rfl, ?hyr1_1_4⟩) (by assumption) ?restr1_1_4
        case hqr1_1_4 => exact fun _ _ _ h => h
        case hyr1_1_4 => (intro w hSw; (try dsimp only at hSw); go_simp; try with_reducible rfl)
        try simp only [Act.put, List.getElem_toArray, List.getElem_cons_succ, List.getElem_cons_zero, List.setIfInBounds_toArray, List.set_cons_zero, List.set_cons_succ]
        refine wpAnyH_take (i := 5) (oi := _) (v := ?vr1_1_5) rfl (by kernel_rfl) (by kernel_rfl) (by kernel_rfl) ?hqr1_1_5 (Or.inl ⟨by kernel_rfl, ?hyr1_1_5⟩) (by assumption) ?restr1_1_5
        case hqr1_1_5 => exact fun _ _ _ h => h
        case hyr1_1_5 => (intro w hSw; (try dsimp only at hSw); go_simp; try with_reducible rfl)
        try simp only [Act.put, List.getElem_toArray, List.getElem_cons_succ, List.getElem_cons_zero, List.setIfInBounds_toArray, List.set_cons_zero, List.set_cons_succ]
        refine wpAnyH_ready (rs := [6]) (by kernel_rfl) (by simp) ?_
        refine AllReadyH.cons (o := _) rfl (fun K hK => ?_) AllReadyH.nil
        go_simp
        (go_at_call 55; refine (HF.out _).mono ?_; rintro e w7 ⟨v, rfl, hv, hb7⟩)
        try (go_wp2_with fail)
        refine hK.out _ _ ?_ (fun hHr1_1 => ?_)
        · (try dsimp only); (first | assumption | exact HS.out _ (Bel.refl _).drew | exact HS.out _ (Bel.then_ (Bel.refl _).drew hb7))
        clear hK K hHr1_0
        try simp only [Act.put, List.getElem_toArray, List.getElem_cons_succ, List.getElem_cons_zero, List.setIfInBounds_toArray, List.set_cons_zero, List.set_cons_succ]
        refine wpAnyH_take (i := 7) (oi := _) (v := ?vr1_1_7) rfl (by kernel_rfl) (by kernel_rfl) (by kernel_rfl) ?hqr1_1_7 (Or.inl ⟨by kernel_rfl, ?hyr1_1_7⟩) (by assumption) ?restr1_1_7
        case hqr1_1_7 => exact fun _ _ _ h => h
        case hyr1_1_7 => (intro w hSw; (try dsimp only at hSw); go_simp; try with_reducible rfl)
        try simp only [Act.put, List.getElem_toArray, List.getElem_cons_succ, List.getElem_cons_zero, List.setIfInBounds_toArray, List.set_cons_zero, List.set_cons_succ]
        refine wpAnyH_done (by kernel_rfl) ?_ _
        refine NoPanic.normal ?_
        have HB7 := Lib.hid ((HB6.out.drew).then_ hb7)
        have HV := Lib.hid hv
        clear hb7 hHr1_1 p0 p1 p2 p3
        rcases hv with ⟨h0, rfl⟩ | ⟨h0, p, rfl, hfp⟩
        · have ht := Lib.hid (HNX.out h0)
          go_wp2
          go_roundw
          case rel => exact ⟨k + 1, HLT.out, by go_num, HB7.out, ht.out⟩
          case measure => have := HLT.out; simp [intOf]; omega
        · have hf := HNO.out h0
          have hkb : (fi == 0) = false := by rw [beq_eq_false_iff_ne]; exact h0
          have HIS := Lib.hid (is_fault p fi 0 w7 hfp)
          rw [hkb] at HIS
          clear hfp
          have hq := fun (u : Value) (W : World) => (show (binOp .neq 91 (.iface 149 (.pointer (some ⟨p, 0, none⟩))) .nilIface).run Tryz.prog W = .ok (.bool true) W by kernel_rfl)
          go_wp2_with (go_at_call 93; refine HIS.out.mono ?_; rintro e w' ⟨rfl, rfl⟩)
          go_ret
          exact ⟨_, rfl, .inl (by rw [hf]; exact HV.out), (((Bel.refl w).alloc _).then_ HB7.out)⟩
      · obtain rfl : k = l.length := by omega
        have ht : R = 0 := by rw [HRV.out]; exact firstNZ_none _ _ _ (fun j _ h => HT.out j (by omega))
        clear HT hlt hk
        go_wp2
        go_ret
        exact ⟨_, rfl, .inl (.inl ⟨ht, rfl⟩), ((Bel.refl w).alloc _).then_ HB.out⟩
  · have hle : ((l.length : Int) != cols.length) = true := by rw [bne_iff_ne]; omega
    have hR2 : R = 130 := by rw [HR.out]; unfold rowI; rw [if_pos hlen]
    go_enter Tryz.func53, Tryz.ntmps53
    go_wp2
    go_ret
    exact ⟨_, rfl, .inr (by rw [hR2]; rfl), by (repeat (first | exact Below.refl _ _ | assumption | exact Bel.refl _ | refine Bel.alloc ?_ _ | refine Bel.drew ?_ | refine Bel.drewN ?_ _ | refine Bel.then_ ?_ (by assumption) | refine Bel.setCell ?_ (by first | (simp; done) | (simp; omega)) _))⟩
end Go.Proofs.YtkklmflclmgjeaaGreatDoor
