/-
  The disk's things: putting bytes behind, and cutting.
-/
import Derived.Test.YtiajggmnfaidjaaGreatDoorDt
import Derived.Laws.EntriesVeiled
import Derived.Deep.RegionLaw
import Derived.Deep.RegionLawGrows
set_option linter.unusedVariables false
set_option linter.unusedSimpArgs false
set_option linter.unusedVariables false
set_option linter.unusedSimpArgs false
namespace Go.Proofs.YtiajggmnfaidjaaGreatDoor
open Go.RowKit

/-- A call hands back a thing that is new. -/
def GivesThing (x : Th) (w : World) (e : Ending) (w' : World) : Prop := ∃ c0 c1 c2 c3 c4, e = .returned (.agg #[c0, c1, c2, c3, c4]) ∧ ThingAt w' [c0, c1, c2, c3, c4] x (fun b => w.heap.size ≤ b) ∧ Bel w w'
/-- Five cells of one block stored, one behind the other. -/
theorem stored5 {w1 : World} {b2 : Nat} {T2 : TypeId} {z0 z1 z2 z3 z4 : Value} (h2 : Blk w1 b2 T2 #[z0, z1, z2, z3, z4]) (x0 x1 x2 x3 x4 : Value) :
    Blk (((((w1.setCell ⟨b2, 0, none⟩ x0).setCell ⟨b2, 1, none⟩ x1).setCell ⟨b2, 2, none⟩ x2).setCell ⟨b2, 3, none⟩ x3).setCell ⟨b2, 4, none⟩ x4) b2 T2 #[x0, x1, x2, x3, x4] ∧
    (∀ k, k ≠ b2 → (((((w1.setCell ⟨b2, 0, none⟩ x0).setCell ⟨b2, 1, none⟩ x1).setCell ⟨b2, 2, none⟩ x2).setCell ⟨b2, 3, none⟩ x3).setCell ⟨b2, 4, none⟩ x4).heap[k]? = w1.heap[k]?) ∧
    (∀ w, Bel w w1 → w.heap.size ≤ b2 → Bel w (((((w1.setCell ⟨b2, 0, none⟩ x0).setCell ⟨b2, 1, none⟩ x1).setCell ⟨b2, 2, none⟩ x2).setCell ⟨b2, 3, none⟩ x3).setCell ⟨b2, 4, none⟩ x4)) := by
  refine ⟨?_, fun k hk => ?_, fun w hb hs => ((((hb.setCell hs _).setCell hs _).setCell hs _).setCell hs _).setCell hs _⟩
  · have := ((((h2.set_ 0 x0).set_ 1 x1).set_ 2 x2).set_ 3 x3).set_ 4 x4
    simpa using this
  · exact ((((Below.heap_setCell _ _ _ _ hk).trans (Below.heap_setCell _ _ _ _ hk)).trans (Below.heap_setCell _ _ _ _ hk)).trans (Below.heap_setCell _ _ _ _ hk)).trans (Below.heap_setCell _ _ _ _ hk)
set_option maxRecDepth 100000 in
set_option maxHeartbeats 400000 in
theorem behind_any (file : Int) (h0 : 0 ≤ file) (h64 : file < 64) (A : Option Addr) (n cap : Nat) (s : List UInt8) (hn : n = s.length) (hc : A = none → n = 0 ∧ cap = 0) (hs : s.length ≤ manyB) (w : World) (hr : Reads w w.heap.size 1 A s.length (s.map bv)) :
    Calls Tryz.prog 42 #[.int .i64 file, .slice A n cap] w (GivesThing ⟨file, s, 0, false⟩ w) := by
  subst hn
  obtain ⟨W, hW⟩ : ∃ W, W = (w.alloc (.cells #[.slice A s.length cap] 43)).alloc (.cells #[.int .i64 0, .nilFunc, .slice none 0 0, .int .i64 0, .bool false] 93) := ⟨_, rfl⟩
  have hbW : Bel w W := by rw [hW]; exact ((Bel.refl w).alloc _).alloc _
  have hszW : W.heap.size = w.heap.size + 2 := by rw [hW]; simp
  have H := Lib.hid (cloneB_any A s.length cap s rfl hc hs W ((hr.below hbW).more hbW.size))
  have k1 : W.heap[w.heap.size]? = some (.cells #[.slice A s.length cap] 43 (0, 0)) := by rw [hW]; exact (Below.heap_alloc _ _ _ (by simp)).trans (World.alloc_heap_new w _)
  have k2 : W.heap[w.heap.size + 1]? = some (.cells #[.int .i64 0, .nilFunc, .slice none 0 0, .int .i64 0, .bool false] 93 (0, 0)) := by
    rw [hW]
    have := World.alloc_heap_new (w.alloc (.cells #[.slice A s.length cap] 43)) (.cells #[.int .i64 0, .nilFunc, .slice none 0 0, .int .i64 0, .bool false] 93)
    rwa [World.size_alloc] at this
  have HW := Lib.hid hW
  have HSZ := Lib.hid hszW
  clear hr hW hszW
  go_enter Tryz.func42, Tryz.ntmps42
  go_wp2_with fail
  rw [← HW.out]
  refine H.out.mono ?_
  rintro e w1 ⟨v, rfl, hv, hb⟩
  obtain ⟨A1, cp, rfl, -⟩ := id hv
  have j1 := hb.deferred k1
  have j2 := hb.deferred k2
  have c1 : w1.cell? ⟨w.heap.size, 0, none⟩ = some (.slice A s.length cap) := by simp [World.cell?, j1]
  have f1 : w1.frozen? ⟨w.heap.size, 0, none⟩ = false := by simp [World.frozen?, j1]
  have d0 : w1.cell? ⟨w.heap.size + 1, 0, none⟩ = some (.int .i64 0) := by simp [World.cell?, j2]
  have d1 : w1.cell? ⟨w.heap.size + 1, 1, none⟩ = some .nilFunc := by simp [World.cell?, j2]
  have d2 : w1.cell? ⟨w.heap.size + 1, 2, none⟩ = some (.slice none 0 0) := by simp [World.cell?, j2]
  have d3 : w1.cell? ⟨w.heap.size + 1, 3, none⟩ = some (.int .i64 0) := by simp [World.cell?, j2]
  have d4 : w1.cell? ⟨w.heap.size + 1, 4, none⟩ = some (.bool false) := by simp [World.cell?, j2]
  have g0 : ∀ i, w1.frozen? ⟨w.heap.size + 1, i, none⟩ = false := by intro i; simp [World.frozen?, j2]
  have HV := Lib.hid hv
  have HB := Lib.hid (hbW.then_ hb)
  have J1 := Lib.hid j1
  have J2 := Lib.hid j2
  clear hv hb j1 j2 k1 k2 hbW H
  go_wp2
  have hne : w.heap.size + 1 ≠ w.heap.size := by omega
  obtain ⟨k1, k2, k3⟩ := stored5 (Blk.far J2.out (p := ⟨w.heap.size, 0, none⟩) hne (.slice A1 s.length cp)) (.int .i64 file) (.func (.func 62) #[] #[.pointer (some ⟨w.heap.size, 0, none⟩)]) (.slice A1 s.length cp) (.int .i64 0) (.bool false)
  refine bodyPost_ret (v := .agg #[.int .i64 file, .func (.func 62) #[] #[.pointer (some ⟨w.heap.size, 0, none⟩)], .slice A1 s.length cp, .int .i64 0, .bool false])
    (results_cell_row rfl _ _ (w.heap.size + 1) _ _ _ _ rfl k1 Tryz.underlying93 rfl (by kernel_rfl)) rfl ⟨_, _, _, _, _, rfl, ?_, ?_⟩
  · refine ⟨⟨h0, h64⟩, .inl ⟨rfl, rfl, w.heap.size, .slice A1 s.length cp, Nat.le_refl _, rfl, ?_, ?_⟩⟩
    · rw [k2 _ hne.symm]
      have := Blk.set_ J1.out 0 (.slice A1 s.length cp)
      simpa [Blk] using this
    · refine HV.out.kept (fun b hb hl => ?_) (fun b hb _ => by have := HSZ.out; omega)
      have hsz := HSZ.out
      rw [k2 b (by omega)]
      exact Below.heap_setCell _ _ _ _ (by show b ≠ w.heap.size; omega)
  · exact k3 w (HB.out.setCell (Nat.le_refl _) _) (by omega)
set_option maxRecDepth 100000 in
set_option maxHeartbeats 400000 in
theorem cut_any (file many : Int) (h0 : 0 ≤ file) (h64 : file < 64) (hm0 : 0 ≤ many) (hm : many ≤ 16777216) (w : World) : Calls Tryz.prog 50 #[.int .i64 file, .int .i64 many] w (GivesThing ⟨file, [], many, true⟩ w) := by
  have k1 : Blk ((w.alloc (.cells #[.int .i64 many] 3)).alloc (.cells #[.int .i64 file, .func (.func 66) #[] #[.pointer (some ⟨w.heap.size, 0, none⟩)], .slice none 0 0, .int .i64 many, .bool true] 93)) (w.heap.size + 1) 93 #[.int .i64 file, .func (.func 66) #[] #[.pointer (some ⟨w.heap.size, 0, none⟩)], .slice none 0 0, .int .i64 many, .bool true] := by
    have := Blk.new (w.alloc (.cells #[.int .i64 many] 3)) 93 #[.int .i64 file, .func (.func 66) #[] #[.pointer (some ⟨w.heap.size, 0, none⟩)], .slice none 0 0, .int .i64 many, .bool true]
    rwa [World.size_alloc] at this
  have K1 := Lib.hid k1
  clear k1
  go_enter Tryz.func50, Tryz.ntmps50
  go_wp2
  refine bodyPost_ret (v := .agg #[.int .i64 file, .func (.func 66) #[] #[.pointer (some ⟨w.heap.size, 0, none⟩)], .slice none 0 0, .int .i64 many, .bool true])
    (results_cell_row rfl _ _ (w.heap.size + 1) _ _ _ _ rfl K1.out Tryz.underlying93 rfl (by kernel_rfl)) rfl ⟨_, _, _, _, _, rfl, ?_, ?_⟩
  · exact ⟨⟨h0, h64⟩, .inr ⟨rfl, rfl, hm0, hm, w.heap.size, Nat.le_refl _, rfl, Blk.alloc (Blk.new w _ _) _⟩⟩
  · exact ((Bel.refl w).alloc _).alloc _

set_option maxRecDepth 100000 in
set_option maxHeartbeats 400000 in
theorem cutC_any (bx : Nat) (many : Int) (hm0 : 0 ≤ many) (hm : many ≤ 16777216) (v : Value) (s : List UInt8) (w : World) {fp : Nat → Prop} (hb : w.heap[bx]? = some (.cells #[.int .i64 many] 3 (0, 0))) (hv : BytesAt w v s fp) :
    Calls Tryz.prog 66 #[v, .pointer (some ⟨bx, 0, none⟩)] w fun e w' => ∃ v', e = .returned v' ∧ BytesAt w' v' (s.take many.toNat) fp ∧ w = w' := by
  obtain ⟨A, cap, rfl, h2, h3, h4, -⟩ := id hv
  have c1 : w.cell? ⟨bx, 0, none⟩ = some (.int .i64 many) := by simp [World.cell?, hb]
  have h3' := h3
  unfold maxLen at h3'
  have HV := Lib.hid hv
  clear hb hv h3
  obtain ⟨k, rfl⟩ := Int.eq_ofNat_of_zero_le hm0
  by_cases hlt : s.length < k
  · go_enter Tryz.func66, Tryz.ntmps66
    go_wp2
    go_ret
    exact ⟨_, rfl, by rw [show s.take (k : Int).toNat = s.take s.length by rw [List.take_of_length_le (by simp; omega), List.take_of_length_le (Nat.le_refl _)]]; exact HV.out.take s.length (Nat.le_refl _), rfl⟩
  · have hle : k ≤ s.length := by omega
    have hle2 : (k : Int) ≤ cap := by omega
    go_enter Tryz.func66, Tryz.ntmps66
    go_wp2
    go_ret
    exact ⟨_, rfl, HV.out.take k hle, rfl⟩
set_option maxRecDepth 100000 in
set_option maxHeartbeats 400000 in
theorem behindC_any (bx : Nat) (v u : Value) (s t : List UInt8) (w : World) {fp : Nat → Prop} (hl : s.length + t.length ≤ manyB) (hb : w.heap[bx]? = some (.cells #[u] 43 (0, 0))) (hu : BytesAt w u t fp) (hv : BytesAt w v s fp) :
    Calls Tryz.prog 62 #[v, .pointer (some ⟨bx, 0, none⟩)] w fun e w' => ∃ v', e = .returned v' ∧ BytesAt w' v' (s ++ t) (fun b => fp b ∨ w.heap.size ≤ b) ∧ Bel w w' := by
  obtain ⟨A, cap, rfl, h2, h3, h4, -⟩ := id hv
  obtain ⟨A', cap', rfl, h2', h3', h4', -⟩ := id hu
  have c1 : w.cell? ⟨bx, 0, none⟩ = some (.slice A' t.length cap') := by simp [World.cell?, hb]
  have h3c := h3
  unfold maxLen at h3c
  obtain ⟨i0, hi0, hz0, hz1, hz2⟩ := info_parts infoU8
  have HV := Lib.hid hv
  have HU := Lib.hid hu
  obtain ⟨-, hrs⟩ := hv.reads
  obtain ⟨-, hrt⟩ := hu.reads
  have B1 : Hid (s.length + t.length ≤ maxLen) := by show _ ≤ _; unfold maxLen; unfold manyB at hl; omega
  have B2 : Hid ((s.length + t.length) * 1 ≤ 140737488355328) := by show _ ≤ _; unfold manyB at hl; omega
  have HRS := Lib.hid hrs
  have HRT := Lib.hid hrt
  clear hb hv hu h3 hrs hrt hl
  by_cases ht : t = []
  · subst ht
    have hs1 : (s.length : Int) ≤ s.length := Int.le_refl _
    go_enter Tryz.func62, Tryz.ntmps62
    go_wp2
    go_region_law (refine step_append_zero _ rfl (.tmp 9) (.tmp 10) 43 rfl 5 i0 Tryz.underlying43 hi0 A A' s.length s.length cap' (by simp [Act.eval, Act.put]) (by simp [Act.eval, Act.put]) (Nat.le_refl _) ?_)
    go_wp2
    go_ret
    refine ⟨_, rfl, ?_, Bel.drew (Bel.refl w)⟩
    have := (HV.out.take s.length (Nat.le_refl _)).mono (fp' := fun b => fp b ∨ w.heap.size ≤ b) (fun b h _ => .inl h)
    rw [List.take_of_length_le (Nat.le_refl _)] at this
    rw [List.append_nil]
    exact this.bel (Bel.drew (Bel.refl w))
  · have htl : 0 < t.length := List.length_pos_iff.2 ht
    obtain ⟨ad, rfl, hab, hac⟩ := HRT.out.2 htl
    have hs1 : (s.length : Int) ≤ s.length := Int.le_refl _
    have HAC : Hid (∀ j u, (t.map bv)[j]? = some u → w.drew.cell? (ad.add j) = some u) := hac
    have HOC : Hid (∀ b, A = some b → ∀ j u, (s.map bv)[j]? = some u → w.drew.cell? (b.add j) = some u) := fun b hb j u hj => by
      have hpos : 0 < s.length := by
        have := (List.getElem?_eq_some_iff.1 hj).1
        simp at this
        omega
      obtain ⟨ad', e, _, hc'⟩ := HRS.out.2 hpos
      rw [hb] at e
      cases e
      exact hc' j u hj
    have HNC : Hid (A = none → s.length = 0 ∧ s.length = 0) := fun e => by have := h4 e; omega
    clear hab hac ht h4
    go_enter Tryz.func62, Tryz.ntmps62
    go_wp2
    go_region_law (refine step_append_grows rfl (.tmp 9) (.tmp 10) 43 rfl 5 i0 (.int .u8 0) 1 1 Tryz.underlying43 hi0 hz0 hz1 hz2 rfl (by decide) A s.length s.length (s.map bv) (by simp [Act.eval, Act.put]) HNC.out (by simp) HOC.out ad t.length cap' (t.map bv) (by simp [Act.eval, Act.put]) (by simp) HAC.out (bv_one t) (by omega) B1.out B2.out ?_; intro v' w1 hown hgr)
    go_wp2
    go_ret
    have hb : Bel w w1 := ⟨hgr.os, hgr.tape, hgr.output, hgr.size, fun k hk => hgr.block k hk (by simp)⟩
    refine ⟨v', rfl, (BytesAt.of_own (s := s ++ t) (by simpa using hown)).mono (fun b h _ => .inr h), hb⟩
end Go.Proofs.YtiajggmnfaidjaaGreatDoor
