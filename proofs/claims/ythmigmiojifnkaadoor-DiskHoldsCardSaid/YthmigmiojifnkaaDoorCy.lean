/-
  The disk: Copy.
-/
import Derived.Test.YthmigmiojifnkaaDoorDw
set_option linter.unusedVariables false
set_option linter.unusedSimpArgs false
set_option linter.unusedVariables false
set_option linter.unusedSimpArgs false
namespace Go.Proofs.YthmigmiojifnkaaDoor
open Go.RowKit

theorem eqlNilT (A : Option Addr) (n c : Nat) (w : World) : (binOp .eql 80 (.slice A n c) (.slice none 0 0)).run Tryd.prog w = .ok (.bool A.isNone) w := Lib.run_eql_slice_nil w _ _ A n c 0 0 Tryd.underlying80
theorem ThingsAt.one {w : World} {cs : List Value} {l : List Th} {fp : Nat → Prop} (h : ThingsAt w cs l fp) (hl : cs.length = l.length * 5) : ∀ u ∈ cs, u.oneCell' = true := fun u hu => by
  obtain ⟨j, hj⟩ := List.mem_iff_getElem?.1 hu
  have hjl := (List.getElem?_eq_some_iff.1 hj).1
  have hi : j / 5 < l.length := by omega
  have ht := h (j / 5) _ (List.getElem?_eq_getElem hi)
  have hlen : ((cs.drop (j / 5 * 5)).take 5).length = 5 := by simp; omega
  obtain ⟨c0, c1, c2, c3, c4, hcs⟩ : ∃ c0 c1 c2 c3 c4, (cs.drop (j / 5 * 5)).take 5 = [c0, c1, c2, c3, c4] := by
    match (cs.drop (j / 5 * 5)).take 5, hlen with
    | [a, b, c, d, e], _ => exact ⟨a, b, c, d, e, rfl⟩
  rw [hcs] at ht
  refine ht.one u ?_
  rw [← hcs]
  refine List.mem_iff_getElem?.2 ⟨j % 5, ?_⟩
  rw [List.getElem?_take, if_pos (by omega), List.getElem?_drop, show j / 5 * 5 + j % 5 = j by omega]
  exact hj
def GivesRow5 (n : Nat) (cs : List Value) (w : World) (e : Ending) (w' : World) : Prop := ∃ v, e = .returned v ∧ w'.ownsRow w.heap.size 95 5 v n cs ∧ Bel w w'
set_option maxRecDepth 100000 in
set_option maxHeartbeats 400000 in
theorem cloneT_any {w : World} {L : Value} {l : List Th} {cs : List Value} {fp : Nat → Prop} (h : w.ownsRow 0 95 5 L l.length cs) (ht : ThingsAt w cs l fp) (hn : l.length ≤ 1000000) : Calls Tryd.prog 73 #[L] w (GivesRow5 l.length cs w) := by
  have hq := eqlNilT
  have HT := Lib.hid (ht.one h.1)
  have H := Lib.hid h
  rcases h.2 with ⟨rfl, h0⟩ | ⟨g, cap, cur, rfl, hg0, hh, hnc, hcm, hsz, htk⟩
  · have hcs : cs = [] := List.eq_nil_of_length_eq_zero (by rw [h.1, h0])
    subst hcs
    have HF : Hid (GivesRow5 l.length [] w (.returned (.slice none 0 0)) w) := ⟨_, rfl, by rw [h0]; exact World.ownsRow_nil _ _ _ _, Bel.refl _⟩
    clear h ht
    go_enter Tryd.func73, Tryd.ntmps73
    go_wp2
    go_ret
    exact HF.out
  · obtain ⟨i0, hi0, hz0, hz1, hz2⟩ := info_parts infoThing
    have h63 : 0 + l.length ≤ maxLen := by unfold maxLen; omega
    have h47 : (0 + l.length) * 56 ≤ 140737488355328 := by omega
    have HR : Hid (Reads w w.heap.size 5 (some ⟨g, 0, none⟩) l.length cs) := Reads.of_own H.out
    clear h ht hh hsz htk hg0
    generalize l.length = n at *
    go_enter Tryd.func73, Tryd.ntmps73
    go_wp2_with (at_builtin; refine wpList_append_any _ rfl _ _ _ rfl w.heap.size 95 i0 _ 5 56 Tryd.underlying80 hi0 hz0 hz1 hz2 rfl (by omega) (.slice (some ⟨w.heap.size, 0, none⟩) 0 0) 0 [] rfl ?c1 w.heap.size (some ⟨g, 0, none⟩) n cap cs rfl ?c2 HT.out h63 h47 ?c5 ?_)
    case c1 => exact World.ownsRow_made _ #[] 0 (Nat.le_refl _) (by simp) (by simp)
    case c2 => exact HR.out.alloc (Nat.le_refl _) _
    case c5 => simp
    intro v1 w1 hown hg hat
    go_wp2
    go_ret
    exact ⟨v1, rfl, by simpa using hown, Below.grown ((Bel.refl w).alloc _) hg (by simp) (fun k e => by cases e; exact Nat.le_refl _)⟩
theorem own_slice {w : World} {b e z n : Nat} {v : Value} {xs : List Value} (h : w.ownsRow b e z v n xs) : ∃ A c, v = .slice A n c := by
  rcases h.2 with ⟨rfl, rfl⟩ | ⟨g, cap, cur, rfl, _⟩
  · exact ⟨none, 0, rfl⟩
  · exact ⟨_, cap, rfl⟩
theorem own_low {w : World} {b e z n : Nat} {v : Value} {xs : List Value} (h : w.ownsRow b e z v n xs) : w.ownsRow 0 e z v n xs := by
  refine ⟨h.1, ?_⟩
  rcases h.2 with h2 | ⟨g, cap, cur, hv, hb, r⟩
  · exact .inl h2
  · exact .inr ⟨g, cap, cur, hv, Nat.zero_le _, r⟩
theorem clone_at {w : World} {b : Nat} {es : Array MapEntry} {clk : Nat} (hb : w.heap[b]? = some (.map es clk)) {V : World} (hV : Bel w V) : Calls Tryd.prog 46 #[.map (some b)] V fun e w' => ∃ b', e = .returned (.map (some b')) ∧ V.heap.size ≤ b' ∧ w'.heap[b']? = some (.map es clk) ∧ Bel V w' ∧ b' < w'.heap.size :=
  (mapsclone_any ((hV.block b (Array.getElem?_eq_some_iff.1 hb).1).trans hb)).mono fun e w' ⟨he, hw⟩ => by
    subst hw
    exact ⟨_, he, Nat.le_refl _, World.alloc_heap_new _ _, (Bel.refl _).alloc _, by simp⟩
theorem DiskX.cells4 {w : World} {bd mf ms : Nat} {L : Value} {cs : List Value} {m : DM} {fp : Nat → Prop} (h : DiskX w bd mf ms L cs m fp) : w.cell? ⟨bd, 0, none⟩ = some (.map (some mf)) ∧ w.cell? ⟨bd, 1, none⟩ = some (.int .i64 m.room) ∧ w.cell? ⟨bd, 2, none⟩ = some (.map (some ms)) ∧ w.cell? ⟨bd, 3, none⟩ = some L := by
  have hb := h.blk
  exact ⟨by simp [World.cell?, hb], by simp [World.cell?, hb], by simp [World.cell?, hb], by simp [World.cell?, hb]⟩
theorem keep4 {V V' : World} {p0 p1 p2 p3 : Addr} {v0 v1 v2 v3 : Value} (hb : Bel V V') (h : V.cell? p0 = some v0 ∧ V.cell? p1 = some v1 ∧ V.cell? p2 = some v2 ∧ V.cell? p3 = some v3) : V'.cell? p0 = some v0 ∧ V'.cell? p1 = some v1 ∧ V'.cell? p2 = some v2 ∧ V'.cell? p3 = some v3 := ⟨hb.c h.1, hb.c h.2.1, hb.c h.2.2.1, hb.c h.2.2.2⟩
/-- A disk that is copied: a new block; what it names is what was named, or new. -/
def GivesCopy (m : DM) (fp : Nat → Prop) (w : World) (e : Ending) (w' : World) : Prop := ∃ bd, e = .returned (.pointer (some ⟨bd, 0, none⟩)) ∧ DiskIs w' bd m (fun b => fp b ∨ w.heap.size ≤ b) ∧ Bel w w'
set_option maxRecDepth 100000 in
set_option maxHeartbeats 1000000 in
theorem copy_any {w : World} {bd : Nat} {m : DM} {fp : Nat → Prop} (h : DiskIs w bd m fp) (hfit : Fit m) : Calls Tryd.prog 40 #[.pointer (some ⟨bd, 0, none⟩)] w (GivesCopy m fp w) := by
  have HN := Lib.hid (none_disk h hfit.ne)
  have H := Lib.hid h
  obtain ⟨mf, ms, L, cs, hX⟩ := h.x
  obtain ⟨es, clk, hm⟩ := hX.files.block
  obtain ⟨es2, clk2, hm2⟩ := hX.synced.block
  have hbd : Bel w w.drew := (Bel.refl w).drew
  have hS0 : (fun V : World => V.cell? ⟨bd, 0, none⟩ = some (.map (some mf)) ∧ V.cell? ⟨bd, 1, none⟩ = some (.int .i64 m.room) ∧ V.cell? ⟨bd, 2, none⟩ = some (.map (some ms)) ∧ V.cell? ⟨bd, 3, none⟩ = some L) w.drew := hX.cells4
  have HX := Lib.hid hX
  have HC1 := fun V hV => Lib.hid (clone_at hm (V := V) hV)
  have HC2 := fun V hV => Lib.hid (clone_at hm2 (V := V) hV)
  have HM1 := Lib.hid hm
  have HM2 := Lib.hid hm2
  have HFEW := Lib.hid hfit.few
  have HBD := Lib.hid hbd
  obtain ⟨AL, nL, cL, rfl⟩ : ∃ A n c, L = .slice A n c := by
    rcases hX.row.2 with ⟨e, e2⟩ | ⟨g, cap, cur, hv, _⟩
    · exact ⟨none, 0, 0, e⟩
    · exact ⟨_, _, _, hv⟩
  clear h hfit hX hm hm2 hbd
  go_enter Tryd.func40, Tryd.ntmps40
  go_wp2_with (first | (go_at_call 45; refine HN.out.mono ?_; rintro e w' ⟨rfl, rfl⟩))
  go_region_held3 (fun V : World => V.cell? ⟨bd, 0, none⟩ = some (.map (some mf)) ∧ V.cell? ⟨bd, 1, none⟩ = some (.int .i64 m.room) ∧ V.cell? ⟨bd, 2, none⟩ = some (.map (some ms)) ∧ V.cell? ⟨bd, 3, none⟩ = some (.slice AL nL cL))
    (first | assumption | exact hS0 | exact keep4 (by assumption) (by assumption) | exact keep4 ((Bel.refl _).alloc _) (by assumption))
    ((first
      | (go_at_call 46; with_reducible refine (HC1 _ HBD.out).out.mono ?_; rintro e w1 ⟨b1, rfl, hz1, hw1, hb1, hl1⟩)
      | (go_at_call 46; with_reducible refine (HC2 _ (HBD.out.then_ hb1)).out.mono ?_; rintro e w2 ⟨b2, rfl, hz2, hw2, hb2, hl2⟩)
      | (go_at_call 73; refine (cloneT_any (HX.out.bel ((HBD.out.then_ hb1).then_ hb2)).row (HX.out.bel ((HBD.out.then_ hb1).then_ hb2)).things HFEW.out).mono ?_; rintro e w3 ⟨v3, rfl, hown3, hb3⟩; obtain ⟨A3, c3, rfl⟩ := own_slice hown3)))
  have hbw1 := HBD.out.then_ hb1
  have hbw2 := hbw1.then_ hb2
  have hbw3 := hbw2.then_ hb3
  have hba : Bel w3 (w3.alloc (.cells #[.map (some b1), .int .i64 m.room, .map (some b2), .slice A3 m.loose.length c3] 82)) := (Bel.refl w3).alloc _
  have hz1' : w.heap.size ≤ b1 := hz1
  have HFIN : Hid (GivesCopy m fp w (.returned (.pointer (some ⟨w3.heap.size, 0, none⟩))) (w3.alloc (.cells #[.map (some b1), .int .i64 m.room, .map (some b2), .slice A3 m.loose.length c3] 82))) := by
    have hs1 := hbw1.size
    have hs2 := hbw2.size
    have hs3 := hbw3.size
    refine ⟨w3.heap.size, rfl, ⟨b1, b2, .slice A3 m.loose.length c3, World.alloc_heap_new w3 _, .inr hs3, by omega, ?_, ?_, cs, ?_, fun g hg => ?_, ?_⟩, hbw3.then_ hba⟩
    · exact HX.out.files.clone HM1.out (hbw3.then_ hba) (((hb2.then_ hb3).then_ hba).block b1 hl1 |>.trans hw1) hz1'
    · exact HX.out.synced.clone HM2.out (hbw3.then_ hba) ((hb3.then_ hba).block b2 hl2 |>.trans hw2) (by omega)
    · exact own_low (hown3.alloc _)
    · exact .inr (by have := (hown3.lt g hg).1; omega)
    · exact HX.out.things.kept (fun b _ hl => (hbw3.then_ hba).block b hl) (fun b h => .inl h)
  clear hbw1 hbw2 hbw3 hba hS0
  go_wp2
  go_ret
  exact HFIN.out
end Go.Proofs.YthmigmiojifnkaaDoor
