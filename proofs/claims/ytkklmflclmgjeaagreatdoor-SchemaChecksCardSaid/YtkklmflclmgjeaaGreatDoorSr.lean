/-
  Schema: the chapter's rows.
-/
import Derived.Test.YtkklmflclmgjeaaGreatDoorSq
set_option linter.unusedVariables false
set_option linter.unusedSimpArgs false
set_option linter.unusedVariables false
set_option linter.unusedSimpArgs false
namespace Go.Proofs.YtkklmflclmgjeaaGreatDoor
open Go.RowKit Go.Shelf Go.Lib
attribute [local go_sem] Oper.semAt_some

theorem mnum_any (a : Int) (w : World) : Calls Tryz.prog 17 #[.int .i64 a] w fun e w' => e = .returned (.int .i64 a) ∧ w = w' := by
  go_enter Tryz.func17, Tryz.ntmps17
  go_wp2
  go_ret
  exact ⟨rfl, rfl⟩
theorem mof_any (a : Int) (w : World) : Calls Tryz.prog 50 #[.int .i64 a] w fun e w' => e = .returned (Val.v ⟨1, a, 0, ⟨#[]⟩⟩) ∧ Bel w w' := by
  go_enter Tryz.func50, Tryz.ntmps50
  go_wp2
  refine bodyPost_ret (v := _) (by simp [results, Tryz.results50, go_sem]; rfl) rfl ⟨rfl, by (repeat (first | exact Below.refl _ _ | assumption | exact Bel.refl _ | refine Bel.alloc ?_ _ | refine Bel.drew ?_ | refine Bel.drewN ?_ _ | refine Bel.then_ ?_ (by assumption) | refine Bel.setCell ?_ (by first | (simp; done) | (simp; omega)) _))⟩
theorem mbytes_any (s : ByteArray) (w : World) : Calls Tryz.prog 51 #[.string s] w fun e w' => e = .returned (Val.v ⟨4, 0, 0, s⟩) ∧ Bel w w' := by
  go_enter Tryz.func51, Tryz.ntmps51
  go_wp2
  refine bodyPost_ret (v := _) (by simp [results, Tryz.results51, go_sem]; rfl) rfl ⟨rfl, by (repeat (first | exact Below.refl _ _ | assumption | exact Bel.refl _ | refine Bel.alloc ?_ _ | refine Bel.drew ?_ | refine Bel.drewN ?_ _ | refine Bel.then_ ?_ (by assumption) | refine Bel.setCell ?_ (by first | (simp; done) | (simp; omega)) _))⟩
theorem scPlaceC_any (o : Col) (nm : ByteArray) (bc : Nat) (w : World) (h : w.cell? ⟨bc, 0, none⟩ = some (.string nm)) : Calls Tryz.prog 65 #[o.v, .pointer (some ⟨bc, 0, none⟩)] w fun e w' => e = .returned (.bool (decide (o.name = nm))) ∧ Bel w w' := by
  obtain ⟨name, t, z, null⟩ := o
  have hlt := World.block_lt_of_cell? (w := w) (a := ⟨bc, 0, none⟩) h
  have hne : w.heap.size ≠ bc := by simp at hlt; omega
  unfold Col.v
  dsimp only
  go_enter Tryz.func65, Tryz.ntmps65
  go_wp2
  go_ret
  exact ⟨congrArg (fun x => Ending.returned (Value.bool x)) (str_beq name nm), by (repeat (first | exact Below.refl _ _ | assumption | exact Bel.refl _ | refine Bel.alloc ?_ _ | refine Bel.drew ?_ | refine Bel.drewN ?_ _ | refine Bel.then_ ?_ (by assumption) | refine Bel.setCell ?_ (by first | (simp; done) | (simp; omega)) _))⟩
/-- The place of a column of this name. -/
def PlaceIs (cols : List Col) (nm : ByteArray) (i : Int) : Prop := (i = -1 ∧ cols.any (fun o => decide (o.name = nm)) = false) ∨ ∃ (k : Nat) (x : Col), i = k ∧ cols[k]? = some x ∧ x.name = nm ∧ (cols.take k).any (fun o => decide (o.name = nm)) = false
set_option maxHeartbeats 2000000 in
theorem slIndexPlace_any (g : Nat) (lb : Array Value) (eg : ∀ args w, (callFunc g args).run Tryz.prog w = .ok (.enter g args) w) (nm : ByteArray) (v : Value) (l : List Col) (w : World) (h : ColsAt w v l)
    (hp : ∀ W, Bel w W → ∀ x ∈ l, Calls Tryz.prog g (#[x.v] ++ lb) W fun e w' => e = .returned (.bool (decide (x.name = nm))) ∧ Bel W w') :
    Calls Tryz.prog 64 #[v, .func (.func g) #[] lb] w fun e w' => (∃ i : Int, e = .returned (.int .i64 i) ∧ PlaceIs l nm i) ∧ Bel w w' := by
  have HV := Lib.hid h
  obtain ⟨A, c, rfl, hcl, hm, hr⟩ := h
  have HP := Lib.hid hp
  have hlI : (l.length : Int) ≤ 9223372036854775807 := by unfold maxLen at hm; omega
  have HR := Lib.hid hr
  clear hr hm hp
  go_enter Tryz.func64, Tryz.ntmps64
  go_wp2
  go_loopw [8] (fun i wr => ∃ k : Nat, k ≤ l.length ∧ i = .int .i64 k ∧ Hid (Bel w wr) ∧ Hid ((l.take k).any (fun o => decide (o.name = nm)) = false)) (fun i _ => l.length - (intOf i).toNat)
  case atStart => exact ⟨0, Nat.zero_le _, rfl, Bel.refl w, by show _ = _; simp⟩
  case round =>
    obtain ⟨k, hk, rfl, HB, HT⟩ := hrel
    by_cases hlt : k < l.length
    · obtain ⟨y, hy⟩ : ∃ y, l[k]? = some y := ⟨_, List.getElem?_eq_getElem hlt⟩
      obtain ⟨b, off, rfl, hi⟩ := HR.out (by omega)
      obtain ⟨q0, q1, q2, q3⟩ := hi k y hy
      have hc0 := HB.out.c q0
      have hc1 := HB.out.c q1
      have hc2 := HB.out.c q2
      have hc3 := HB.out.c q3
      have hkI : (k : Int) < l.length := by omega
      have hmem : y ∈ l := List.mem_of_getElem? hy
      have HC := Lib.hid (HP.out wr HB.out y hmem)
      have HNX : Hid (¬ y.name = nm → (l.take (k + 1)).any (fun o => decide (o.name = nm)) = false) := fun e => by
        rw [List.take_add_one, hy, List.any_append, HT.out]
        simp [e]
      have HYES : Hid (y.name = nm → PlaceIs l nm k) := fun e => .inr ⟨k, y, rfl, hy, e, HT.out⟩
      clear hi hy hmem q0 q1 q2 q3
      by_cases hpy : y.name = nm
      · have hd := Lib.hid (HYES.out hpy)
        rw [decide_eq_true hpy] at HC
        clear hpy HNX
        go_wp2_with (go_at_fn g; refine HC.out.mono ?_; rintro e w4 ⟨rfl, hb4⟩)
        go_ret
        exact ⟨⟨(k : Int), rfl, hd.out⟩, HB.out.then_ hb4⟩
      · have hd := Lib.hid (HNX.out hpy)
        rw [decide_eq_false hpy] at HC
        clear hpy HYES
        go_wp2_with (go_at_fn g; refine HC.out.mono ?_; rintro e w4 ⟨rfl, hb4⟩)
        go_roundw
        case rel => exact ⟨k + 1, by omega, by go_num, HB.out.then_ hb4, hd.out⟩
        case measure => simp [intOf]; omega
    · obtain rfl : k = l.length := by omega
      have HN : Hid (PlaceIs l nm (-1)) := .inl ⟨rfl, by have := HT.out; rwa [List.take_length] at this⟩
      clear HT hlt hk
      go_wp2
      go_ret
      exact ⟨⟨-1, rfl, HN.out⟩, HB.out⟩
theorem PlaceIs.lo {cols : List Col} {nm : ByteArray} {i : Int} (h : PlaceIs cols nm i) : -1 ≤ i := by
  rcases h with ⟨rfl, -⟩ | ⟨k, x, rfl, -⟩ <;> omega
set_option maxRecDepth 100000 in
theorem scPlace_any (vc vk vu : Value) (cols : List Col) (nm : ByteArray) (w : World) (h : ColsAt w vc cols) : Calls Tryz.prog 29 #[.agg #[vc, vk, vu], .string nm] w fun e w' => (∃ i : Int, e = .returned (.tuple #[.int .i64 (if 0 ≤ i then i else 0), .bool (decide (0 ≤ i))]) ∧ PlaceIs cols nm i) ∧ Bel w w' := by
  have eg : ∀ args w, (callFunc 65 args).run Tryz.prog w = .ok (.enter 65 args) w := enters_of Tryz.func65 (by kernel_rfl) rfl
  have HI := Lib.hid (fun V (hb : Bel w V) (bn : Nat) (hn : V.cell? ⟨bn, 0, none⟩ = some (.string nm)) => slIndexPlace_any 65 #[.pointer (some ⟨bn, 0, none⟩)] eg nm vc cols V (h.bel hb) (fun W hW x hx => scPlaceC_any x nm bn W (hW.c hn)))
  clear h
  go_enter Tryz.func29, Tryz.ntmps29
  go_wp2_with fail
  refine (HI.out _ (((Bel.refl w).alloc _).alloc _) _ (by go_simp)).mono ?_
  rintro e w' ⟨⟨i, rfl, hi⟩, hb⟩
  have HP := Lib.hid hi
  have HB := Lib.hid ((((Bel.refl w).alloc _).alloc _).then_ hb)
  clear hb HI
  rcases hi with ⟨rfl, -⟩ | ⟨k, x, rfl, -⟩
  · go_wp2
    go_ret2
    exact ⟨⟨-1, rfl, HP.out⟩, HB.out⟩
  · have h0 : (0 : Int) ≤ k := by omega
    go_wp2
    all_goals
      go_ret2
      refine ⟨⟨(k : Int), ?_, HP.out⟩, HB.out⟩
      rw [if_pos h0, decide_eq_true h0]
      first | rfl | (congr 1; simp; omega)
end Go.Proofs.YtkklmflclmgjeaaGreatDoor
