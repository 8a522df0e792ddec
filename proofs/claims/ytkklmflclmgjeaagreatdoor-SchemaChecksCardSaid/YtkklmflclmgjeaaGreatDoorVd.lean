/-
  Schema: slices.Concat, Clone; the document's Sets, Place.
-/
import Derived.Test.YtkklmflclmgjeaaGreatDoorVc
import Derived.Test.YtkklmflclmgjeaaGreatDoorSr
set_option linter.unusedVariables false
set_option linter.unusedSimpArgs false
set_option linter.unusedVariables false
set_option linter.unusedSimpArgs false
namespace Go.Proofs.YtkklmflclmgjeaaGreatDoor
open Go.RowKit Go.Shelf Go.Lib
attribute [local go_sem] Oper.semAt_some

def catN (a b : Nat) : Nat → Nat
  | 0 => 0
  | 1 => a
  | _ => a + b
def catK {α : Type} (L M : List α) : Nat → List α
  | 0 => []
  | 1 => L
  | _ => L ++ M
theorem own_one (w : World) (u : Value) (t : TypeId) : (w.alloc (.cells #[u] t)).ownsRow w.heap.size t 1 (.slice (some ⟨w.heap.size, 0, none⟩) 1 1) 1 [u] :=
  ⟨rfl, .inr ⟨w.heap.size, 1, #[u], rfl, Nat.le_refl _, World.alloc_heap_new w _, Nat.le_refl _, by unfold maxLen; omega, rfl, rfl⟩⟩
set_option maxRecDepth 100000 in
set_option maxHeartbeats 4000000 in
theorem slConcat_own (b1 : Nat) (Aa Ab : Option Addr) (nA ca nB cb : Nat) (us vs : List Value) (w : World) (ha : w.cell? ⟨b1, 0, none⟩ = some (.slice Aa nA ca)) (hb : w.cell? ⟨b1, 1, none⟩ = some (.slice Ab nB cb)) (hur : Reads w w.heap.size 1 Aa nA us) (hvr : Reads w w.heap.size 1 Ab nB vs)
    (hu1 : ∀ u ∈ us, u.oneCell' = true) (hv1 : ∀ u ∈ vs, u.oneCell' = true) (h1 : 1 ≤ nA) (hm : nA + nB ≤ 1000) :
    Calls Tryz.prog 67 #[.slice (some ⟨b1, 0, none⟩) 2 2] w fun e w' => ∃ v, e = .returned v ∧ w'.ownsRow w.heap.size 23 1 v (nA + nB) (us ++ vs) ∧ Bel w w' := by
  obtain ⟨i0, hi0, hz0, hz1, hz2⟩ := info_parts infoIs
  have HUR := Lib.hid hur
  have HVR := Lib.hid hvr
  have hp1 : (0 : Nat) < 1 := by omega
  have hLI : (nA : Int) ≤ 1000 := by omega
  have hMI : (nB : Int) ≤ 1000 := by omega
  have hL1 : (1 : Int) ≤ nA := by omega
  have HG := Lib.hid (fun V => slGrow_nil (nA + nB) (by omega) hm V)
  have HA := Lib.hid ha
  have HB := Lib.hid hb
  have h63a : 0 + nA ≤ maxLen := by unfold maxLen; omega
  have hbya : (0 + nA) * 24 ≤ 140737488355328 := by omega
  have h63b : nA + nB ≤ maxLen := by unfold maxLen; omega
  have hbyb : (nA + nB) * 24 ≤ 140737488355328 := by omega
  have HM := Lib.hid hm
  clear hur hvr hm
  go_enter Tryz.func67, Tryz.ntmps67
  go_wp2
  go_loop [3, 11] (fun s i => ∃ k : Nat, k ≤ 2 ∧ i = .int .i64 k ∧ s = .int .i64 (catN nA nB k : Nat)) (fun s i => 2 - (intOf i).toNat)
  case atStart => exact ⟨0, by omega, rfl, rfl⟩
  case round =>
    obtain ⟨k, hk, rfl, rfl⟩ := hrel
    have hc : k = 0 ∨ k = 1 ∨ k = 2 := by omega
    rcases hc with rfl | rfl | rfl
    · have e0 : catN nA nB 0 = 0 := rfl
      rw [e0]
      clear e0
      go_wp2
      go_round
      case rel => exact ⟨1, by omega, rfl, by first | rfl | (show _ = Value.int .i64 ((nA : Nat) : Int); simp) | (show _ = Value.int .i64 ((nA : Nat) : Int); congr 1; omega)⟩
      case measure => simp [intOf]
    · have e0 : catN nA nB 1 = nA := rfl
      have HE : Hid ((catN nA nB 2 : Int) = nA + nB) := by show _ = _; show ((nA + nB : Nat) : Int) = _; omega
      rw [e0]
      clear e0
      go_wp2
      go_round
      case rel => exact ⟨2, by omega, rfl, by rw [HE.out]⟩
      case measure => simp [intOf]
    · have e0 : (catN nA nB 2 : Int) = ((nA + nB : Nat) : Int) := rfl
      rw [e0]
      clear e0
      obtain ⟨n, hn⟩ : ∃ n, n = nA + nB := ⟨_, rfl⟩
      rw [← hn] at HG ⊢
      have HN := Lib.hid hn
      have hnI : (n : Int) ≤ 1000 := by have := HM.out; omega
      clear hn
      go_wp2_with fail
      refine (HG.out _).mono ?_
      rintro e w4 ⟨A, c, rfl, hown, hb4⟩
      have HO4 := Lib.hid hown
      have HB4 := Lib.hid hb4
      clear hown hb4
      go_wp2_with fail
      go_loopw [6, 27] (fun v i wr => ∃ (k N : Nat), k ≤ 2 ∧ i = .int .i64 k ∧ (∃ A c, v = .slice A N c) ∧ Hid (N = catN nA nB k ∧ Bel w wr ∧ wr.ownsRow w.heap.size 23 1 v N (catK us vs k))) (fun v i _ => 2 - (intOf i).toNat)
      case atStart => exact ⟨0, 0, by omega, rfl, ⟨_, _, rfl⟩, rfl, HB4.out, HO4.out⟩
      case round =>
        obtain ⟨k, N, hk, rfl, ⟨A, c, rfl⟩, HR⟩ := hrel
        have hc : k = 0 ∨ k = 1 ∨ k = 2 := by omega
        rcases hc with rfl | rfl | rfl
        · obtain rfl : N = 0 := HR.out.1
          have c0 := HR.out.2.1.c HA.out
          have HX := Lib.hid (HUR.out.keep (w' := wr) (fun p hp => Below.cell HR.out.2.1 hp))
          have HOW : Hid (wr.ownsRow w.heap.size 23 1 (.slice A 0 c) 0 []) := HR.out.2.2
          have HS := HR.out.2.1.size
          go_wp2_with (at_builtin; refine wpList_append_any _ rfl _ _ _ rfl w.heap.size 23 i0 _ 1 24 Tryz.underlying24 hi0 hz0 hz1 hz2 rfl hp1 _ 0 [] rfl HOW.out _ Aa nA ca us rfl HX.out hu1 h63a hbya HS ?_; intro v9 w9 hown9 hg9 hat9; rw [Nat.zero_add] at hown9; obtain ⟨A9, c9, rfl⟩ := row_any hown9; have hb9 : Bel w w9 := Below.grown HR.out.2.1 hg9 HS (fun j e => (HOW.out.lt j e).1); have HN9 : Hid (nA = catN nA nB 1 ∧ Bel w w9 ∧ w9.ownsRow w.heap.size 23 1 (.slice A9 nA c9) nA (catK us vs 1)) := ⟨rfl, hb9, hown9⟩; clear hown9 hg9 hat9 hb9)
          go_roundw
          case rel => exact ⟨1, nA, by omega, rfl, ⟨A9, c9, rfl⟩, HN9⟩
          case measure => simp [intOf]
        · have hN : nA = N := HR.out.1.symm
          subst hN
          have c0 := HR.out.2.1.c HB.out
          have HX := Lib.hid (HVR.out.keep (w' := wr) (fun p hp => Below.cell HR.out.2.1 hp))
          have HOW : Hid (wr.ownsRow w.heap.size 23 1 (.slice A nA c) nA us) := HR.out.2.2
          have HS := HR.out.2.1.size
          go_wp2_with (at_builtin; refine wpList_append_any _ rfl _ _ _ rfl w.heap.size 23 i0 _ 1 24 Tryz.underlying24 hi0 hz0 hz1 hz2 rfl hp1 _ nA us rfl HOW.out _ Ab nB cb vs rfl HX.out hv1 h63b hbyb HS ?_; intro v9 w9 hown9 hg9 hat9; obtain ⟨A9, c9, rfl⟩ := row_any hown9; have hb9 : Bel w w9 := Below.grown HR.out.2.1 hg9 HS (fun j e => (HOW.out.lt j e).1); have HN9 : Hid (nA + nB = catN nA nB 2 ∧ Bel w w9 ∧ w9.ownsRow w.heap.size 23 1 (.slice A9 (nA + nB) c9) (nA + nB) (catK us vs 2)) := ⟨rfl, hb9, hown9⟩; clear hown9 hg9 hat9 hb9)
          go_roundw
          case rel => exact ⟨2, nA + nB, by omega, rfl, ⟨A9, c9, rfl⟩, HN9⟩
          case measure => simp [intOf]
        · have hN : nA + nB = N := HR.out.1.symm
          subst hN
          go_wp2
          go_ret
          exact ⟨_, rfl, HR.out.2.2, HR.out.2.1⟩
end Go.Proofs.YtkklmflclmgjeaaGreatDoor
