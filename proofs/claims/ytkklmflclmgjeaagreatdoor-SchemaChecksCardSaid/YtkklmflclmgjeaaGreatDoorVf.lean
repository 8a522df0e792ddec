/-
  Schema: Sets goes over the sets, in order, each in memory of its own.
-/
import Derived.Test.YtkklmflclmgjeaaGreatDoorVe
import Derived.Test.YtkklmflclmgjeaaGreatDoorSeqr
import Derived.Test.YtkklmflclmgjeaaGreatDoorCount
set_option linter.unusedVariables false
set_option linter.unusedSimpArgs false
set_option linter.unusedVariables false
set_option linter.unusedSimpArgs false
namespace Go.Proofs.YtkklmflclmgjeaaGreatDoor
open Go.RowKit Go.Shelf Go.Lib
attribute [local go_sem] Oper.semAt_some

theorem scSets_any (vc vk vu : Value) (w : World) : Calls Tryz.prog 30 #[.agg #[vc, vk, vu]] w fun e w' => e = .returned (.func (.func 66) #[] #[.pointer (some ⟨w.heap.size, 0, none⟩)]) ∧ w.alloc (.cells #[vc, vk, vu] 26) = w' := by
  go_enter Tryz.func30, Tryz.ntmps30
  go_wp2
  go_ret
  exact ⟨rfl, rfl⟩
/-- What a round of Sets is handed: the set's number, and a slice that reads as it. -/
def ESet (p : (List Int × Nat) × Array Value) (W : World) : Prop := ∃ v, p.2 = #[.int .i64 p.1.2, v] ∧ IntsAt W v p.1.1
theorem IntsAt.kept {w w' : World} {v : Value} {l : List Int} (h : IntsAt w v l) (hk : ∀ (p : Addr) x, w.cell? p = some x → w'.cell? p = some x) : IntsAt w' v l := by
  obtain ⟨A, c, e, hc, hm, hi⟩ := h
  exact ⟨A, c, e, hc, hm, fun hl => by obtain ⟨b, off, ea, hi⟩ := hi hl; exact ⟨b, off, ea, fun i x hx => hk _ _ (hi i x hx)⟩⟩
theorem eset_own (n : Nat) : OwnFrom n ESet := fun s A B row hs hg hr => by
  obtain ⟨v, e, h⟩ := hs
  exact ⟨v, e, h.kept fun p x hx => cell_kept hx hg (fun r e => (hr r e).2)⟩
theorem split_at {α : Type} {xs : List α} {k : Nat} {x : α} (h : xs[k]? = some x) : xs = xs.take k ++ x :: xs.drop (k + 1) ∧ xs.take (k + 1) = xs.take k ++ [x] := by
  have hlt := (List.getElem?_eq_some_iff.1 h).1
  have hx := (List.getElem?_eq_some_iff.1 h).2
  refine ⟨?_, by rw [List.take_add_one, h]; rfl⟩
  conv => lhs; rw [← List.take_append_drop k xs]
  rw [List.drop_eq_getElem_cons hlt, hx]
theorem below_bel {w0 w W : World} {n : Nat} (h0 : w0.heap.size ≤ n) (hb : Bel w0 w) (h : Below n w W) : Bel w0 W := Below.trans hb (Below.mono h h0)
set_option maxRecDepth 100000 in
set_option maxHeartbeats 4000000 in
theorem scSets_seq (n : Nat) (hn : 6 ≤ n) {w₀ w : World} {B n₀ : Nat} (vc vk vu : Value) (cols : List Col) (key : List Int) (uq : List (List Int)) (hc : ColsAt w₀ vc cols) (hk : IntsAt w₀ vk key) (hu : ListsAt w₀ vu uq) (hw₀ : w₀.heap.size ≤ n₀) (hb₀ : Bel w₀ w) (hB : B < n₀) (hn0 : n₀ ≤ w.heap.size)
    (c0 : w.cell? ⟨B, 0, none⟩ = some vc) (c1 : w.cell? ⟨B, 1, none⟩ = some vk) (c2 : w.cell? ⟨B, 2, none⟩ = some vu) (hm : uq.length ≤ 900) (hks : rightS cols key uq = true → key.length ≤ 1000 ∧ ∀ l ∈ uq, l.length ≤ 1000) :
    SeqR Fence.wide n Tryz.prog 66 #[] #[.pointer (some ⟨B, 0, none⟩)] ESet n₀ (setsL cols key uq).zipIdx w := fun l' J Jx W hW hJ hY hJ0 => by
  have d0 := (hW.cell (p := ⟨B, 0, none⟩) hB).trans c0
  have d1 := (hW.cell (p := ⟨B, 1, none⟩) hB).trans c1
  have d2 := (hW.cell (p := ⟨B, 2, none⟩) hB).trans c2
  have hbW := below_bel hw₀ hb₀ hW
  have HCK := Lib.hid (scCheck_any vc vk vu cols key uq W (hc.bel hbW) (hk.bel hbW) (hu.bel hbW))
  have HJ := Lib.hid hJ
  have HY := Lib.hid hY
  have HJ0 := Lib.hid hJ0
  have hWs : n₀ ≤ W.heap.size := Nat.le_trans hn0 hW.size
  have HBW := Lib.hid hbW
  unfold setsL at HY ⊢
  have HK := Lib.hid hk
  obtain ⟨us, hus, hur⟩ : ∃ us, UsAt w₀ us uq ∧ ∃ Au cu, vu = .slice Au uq.length cu ∧ Reads w₀ w₀.heap.size 1 Au uq.length us := by
    have hu' := hu
    obtain ⟨Au, cu, rfl, -⟩ := hu'
    obtain ⟨us, h1, h2⟩ := hu.vals
    exact ⟨us, h1, Au, cu, rfl, h2⟩
  obtain ⟨Au, cu, rfl, hur⟩ := hur
  obtain ⟨Ak, ck, rfl, -⟩ := hk
  have HUR := Lib.hid hur
  have HUA := Lib.hid (UsAt.append (UsAt.one HK.out) hus)
  have h1c := hus.one_cell
  have HKS := Lib.hid hks
  have HM := Lib.hid hm
  clear hc hu hks hm hJ hY hJ0 c0 c1 c2 hus hur hbW
  cases hr : rightS cols key uq
  · rw [hr] at HCK HY
    clear hr
    simp only [Bool.false_eq_true, if_false] at HCK HY ⊢
    refine callsIn_of_wp Tryz.func66 rfl trivial ?_ rfl
    simp only [Tryz.ntmps66, List.size_toArray, List.length_cons, List.length_nil, Nat.reduceAdd, Nat.reduceSub, Array.replicate_succ, Array.replicate_zero, List.push_toArray, List.append_toArray, List.nil_append, List.cons_append]
    gi_wp2
    refine wpIn_scope_wide ?_
    gi_wp2_with fail
    refine ⟨trivial, fun _ => by omega, (callsIn_wide.2 HCK.out).mono ?_⟩
    rintro e4 w4 ⟨rfl, hb4⟩
    gi_wp2
    first | rw [Exit.noGoto_ret] | rw [Exit.noGoto_normal]
    first | go_end0 | refine bodyPost_ret (results_none rfl _ _ _) rfl ?_
    exact ⟨⟨_, rfl⟩, .inl (HJ.out _ _ _ HJ0.out hb4)⟩
  · have hks := HKS.out hr
    rw [hr] at HCK HY
    clear hr HKS
    simp only [if_true] at HCK HY ⊢
    refine callsIn_of_wp Tryz.func66 rfl trivial ?_ rfl
    simp only [Tryz.ntmps66, List.size_toArray, List.length_cons, List.length_nil, Nat.reduceAdd, Nat.reduceSub, Array.replicate_succ, Array.replicate_zero, List.push_toArray, List.append_toArray, List.nil_append, List.cons_append]
    gi_wp2
    refine wpIn_scope_wide ?_
    gi_wp2_with fail
    refine ⟨trivial, fun _ => by omega, (callsIn_wide.2 HCK.out).mono ?_⟩
    rintro e4 w4 ⟨rfl, hb4⟩
    have g1 := hb4.c d1
    have g2 := hb4.c d2
    have HB4 := Lib.hid (HBW.out.then_ hb4)
    have HB4W := Lib.hid hb4
    clear hb4 d0 d1 d2
    have hBlt : B < w4.heap.size := World.block_lt_of_cell? (w := w4) (a := ⟨B, 1, none⟩) g1
    have hb5 : Bel w4 ((w4.alloc (.cells #[.slice Ak key.length ck] 23)).alloc (.cells #[.slice (some ⟨w4.heap.size, 0, none⟩) 1 1, .slice Au uq.length cu] 24)) := ((Bel.refl w4).alloc _).alloc _
    have HCC := Lib.hid (slConcat_own (w4.heap.size + 1) (some ⟨w4.heap.size, 0, none⟩) Au 1 1 uq.length cu [.slice Ak key.length ck] us ((w4.alloc (.cells #[.slice Ak key.length ck] 23)).alloc (.cells #[.slice (some ⟨w4.heap.size, 0, none⟩) 1 1, .slice Au uq.length cu] 24)) (by go_simp) (by go_simp)
      ⟨rfl, fun _ => ⟨_, rfl, (by simp; omega), fun j u hu => by
        have hj : j = 0 := by have := (List.getElem?_eq_some_iff.1 hu).1; simp at this; omega
        subst hj
        simp at hu
        subst hu
        rw [Addr.add_lit]
        go_simp⟩⟩ ((HUR.out.keep (fun p hp => Below.cell (HB4.out.then_ hb5) hp)).more (by have := (HB4.out.then_ hb5).size; exact this))
      (fun u hu => by simp at hu; subst hu; rfl) h1c (Nat.le_refl _) (by have := HM.out; omega))
    have HB5 := Lib.hid hb5
    have hu900 : (uq.length : Int) ≤ 900 := by have := HM.out; omega
    have HKS := Lib.hid hks
    clear hb5 hks h1c
    gi_wp2
    refine wpIn_label ?_
    gi_wp2_with fail
    refine ⟨trivial, fun _ => by omega, (callsIn_wide.2 HCC.out).mono ?_⟩
    rintro e5 w5 ⟨v, rfl, hown, hb5⟩
    obtain ⟨A5, c5, rfl⟩ := row_any hown
    have HOWN := Lib.hid hown
    have HB6 := Lib.hid ((HB4.out.then_ HB5.out).then_ hb5)
    have HW5 := Lib.hid ((HB4W.out.then_ HB5.out).then_ hb5)
    have hs4 : W.heap.size ≤ w4.heap.size := HB4W.out.size
    clear hown hb5 g1 g2 hBlt
    gi_wp2_with fail
    gi_loopw [16] (fun i wr => ∃ k : Nat, k ≤ 1 + uq.length ∧ i = .int .i64 k ∧ Hid (J ((key :: uq).zipIdx.take k) wr ∧ Own n₀ W.heap.size w5 wr)) (fun i _ => 1 + uq.length - (intOf i).toNat)
    case atStart => exact ⟨0, Nat.zero_le _, rfl, HJ.out _ _ _ HJ0.out HW5.out, Own.refl _ _ _⟩
    case round =>
      obtain ⟨k, hk, rfl, HR⟩ := hrel
      by_cases hlt : k < 1 + uq.length
      · obtain ⟨l, hl⟩ : ∃ l, (key :: uq)[k]? = some l := ⟨_, List.getElem?_eq_getElem (by simp; omega)⟩
        obtain ⟨u, hu⟩ : ∃ u, ([.slice Ak key.length ck] ++ us)[k]? = some u := ⟨_, List.getElem?_eq_getElem (by have := HUA.out.1; rw [this]; simp; omega)⟩
        obtain ⟨g, cap, hv, hg0, hg1⟩ := HOWN.out.form (by omega)
        injection hv with hv1 hv2 hv3
        have hcell := HOWN.out.cells (g := g) (by rw [hv1]; rfl) k u hu
        rw [Addr.add_lit, Nat.zero_add] at hcell
        subst hv1
        have hgW : W.heap.size ≤ g := Nat.le_trans (by have := HB5.out.size; omega) hg0
        have hcr : wr.cell? ⟨g, k, none⟩ = some u := (World.cell?_of_block (HR.out.2.keep g hgW hg1)).trans hcell
        have hin : IntsAt w₀ u l := HUA.out.2 k u l hu hl
        have hbr : Bel w₀ wr := below_bel hw₀ HB6.out HR.out.2.below
        have hll : l.length ≤ 1000 := by
          rcases List.mem_cons.1 (List.mem_of_getElem? hl) with rfl | h
          · exact HKS.out.1
          · exact HKS.out.2 l h
        have HCL := Lib.hid (slCloneInt_any u l wr (hin.bel hbr) hll)
        have hx : (key :: uq).zipIdx[k]? = some (l, k) := by rw [List.getElem?_zipIdx, hl]; simp
        obtain ⟨hsp, htk⟩ := split_at hx
        have HSP := Lib.hid hsp
        have HTK := Lib.hid htk
        have hkI : (k : Int) < 1 + uq.length := by omega
        have hszr : W.heap.size ≤ wr.heap.size := Nat.le_trans HW5.out.size HR.out.2.below.size
        clear hl hu hcell hv2 hv3 hin hbr hll hx hsp htk
        gi_wp2_with fail
        refine ⟨trivial, fun _ => by omega, (callsIn_wide.2 HCL.out).mono ?_⟩
        rintro e6 w6 ⟨u6, rfl, hi6, hb6⟩
        obtain ⟨fn, tmps, assign, body, hy, hRR⟩ := HY.out _ (l, k) #[.int .i64 k, u6] _ w6 HSP.out (HJ.out _ _ _ HR.out.1 hb6) ⟨u6, rfl, hi6⟩
        have HB6' := Lib.hid hb6
        clear hb6 hi6
        gi_wp2
        refine ⟨fun _ => by omega, hRR.mono ?_⟩
        rintro e W3 (⟨rfl, hJ3, hk3⟩ | ⟨rfl, hJx3⟩)
        · gi_wp2
          go_roundw
          case rel => exact ⟨k + 1, by omega, by go_num, by rw [HTK.out]; exact hJ3, (HR.out.2.trans (Own.of_bel (Nat.le_trans hWs hszr) HB6'.out)).trans hk3⟩
          case measure => simp [intOf]; omega
        · gi_wp2
          first | rw [Exit.noGoto_ret] | rw [Exit.noGoto_normal]
          first | go_end0 | refine bodyPost_ret (results_none rfl _ _ _) rfl ?_
          exact ⟨⟨_, rfl⟩, .inr ⟨_, _, _, HSP.out, hJx3⟩⟩
      · obtain rfl : k = 1 + uq.length := by omega
        have HJE : Hid (J (key :: uq).zipIdx wr) := by
          have := HR.out.1
          rwa [List.take_of_length_le (by simp; omega)] at this
        clear hlt hk
        gi_wp2
        first | rw [Exit.noGoto_ret] | rw [Exit.noGoto_normal]
        first | go_end0 | refine bodyPost_ret (results_none rfl _ _ _) rfl ?_
        exact ⟨⟨_, rfl⟩, .inl HJE.out⟩
end Go.Proofs.YtkklmflclmgjeaaGreatDoor
