/-
  The disk: New, Sync, Append, Read.
-/
import Derived.Test.YtiajggmnfaidjaaGreatDoorDp
import Derived.Shelf.SlMaps.Clone
set_option linter.unusedVariables false
set_option linter.unusedSimpArgs false
set_option linter.unusedVariables false
set_option linter.unusedSimpArgs false
namespace Go.Proofs.YtiajggmnfaidjaaGreatDoor
open Go.RowKit

theorem mapsclone_any {w : World} {b : Nat} {es : Array MapEntry} {clk : Nat} (hb : w.heap[b]? = some (.map es clk)) : Calls Tryz.prog 41 #[.map (some b)] w fun e w' => e = .returned (.map (some w.heap.size)) ∧ w.alloc (.map es clk) = w' := by
  have hq := fun w => run_eql_map_nil_sl (P := Tryz.prog) w 58 _ _ (some b) Tryz.underlying58
  have h7 := @run_callFunc_extern Tryz.prog 61 _ Extern.MapsClone.clone Tryz.func61 (by kernel_rfl) (by kernel_rfl) (by kernel_rfl) (by kernel_rfl)
  have h8 := run_maps_clone_sl (P := Tryz.prog) w 58 hb
  have h9 := fun (xT : TypeId) (v : Value) (w : World) => run_typeAssert_map_sl (P := Tryz.prog) w 58 xT _ _ v Tryz.underlying58
  go_enter Tryz.func41, Tryz.ntmps41
  go_wp2
  go_ret
  exact ⟨rfl, rfl⟩
/-- A clone of files, in a new block. -/
theorem FilesAt.clone {w w' : World} {mf : Nat} {f : Int → List UInt8} {fp : Nat → Prop} (h : FilesAt w mf f fp) {es : Array MapEntry} {clk : Nat} (hm : w.heap[mf]? = some (.map es clk)) (hb : Bel w w') {b : Nat} (hw : w'.heap[b]? = some (.map es clk)) (hf : w.heap.size ≤ b) : FilesAt w' b f (fun b => fp b ∨ w.heap.size ≤ b) := by
  obtain ⟨h0, g, ⟨es', clk', hm', him⟩, h1, h2⟩ := h
  rw [hm] at hm'
  cases hm'
  exact ⟨.inr hf, g, ⟨es, clk, hw, him⟩, fun k v hv => ⟨(h1 k v hv).1, (h1 k v hv).2.1, (h1 k v hv).2.2.kept (fun b _ hl => hb.block b hl) (fun b h _ => .inl h)⟩, h2⟩
/-- A call on a disk: what it hands back, and the disk behind it. -/
def GivesOp (bd : Nat) (m' : DM) (r : Int) (fp : Nat → Prop) (w : World) (e : Ending) (w' : World) : Prop := e = .returned (.int .i64 r) ∧ ∃ fp', DiskIs w' bd m' fp' ∧ Opp fp fp' w w'
def DM.sync (m : DM) : DM := { m with synced := m.files, loose := [] }
set_option maxRecDepth 100000 in
set_option maxHeartbeats 400000 in
theorem sync_any {w : World} {bd : Nat} {m : DM} {fp : Nat → Prop} (h : DiskIs w bd m fp) (hr : m.room ≠ 0) : Calls Tryz.prog 17 #[.pointer (some ⟨bd, 0, none⟩)] w (GivesOp bd m.sync 0 fp w) := by
  have HN := Lib.hid (none_disk h hr)
  obtain ⟨mf, ms, L, hb, hfb, hne, hF, hS, hL⟩ := h
  obtain ⟨es, clk, hm, -⟩ := hF.open
  have c0 : w.cell? ⟨bd, 0, none⟩ = some (.map (some mf)) := by simp [World.cell?, hb]
  have c2 : w.cell? ⟨bd, 2, none⟩ = some (.map (some ms)) := by simp [World.cell?, hb]
  have c3 : w.cell? ⟨bd, 3, none⟩ = some L := by simp [World.cell?, hb]
  have f2 : w.frozen? ⟨bd, 2, none⟩ = false := by simp [World.frozen?, hb]
  have f3 : w.frozen? ⟨bd, 3, none⟩ = false := by simp [World.frozen?, hb]
  have HC := Lib.hid (mapsclone_any hm)
  have hba : Bel w (w.alloc (.map es clk)) := (Bel.refl w).alloc _
  have hb2 := hba.deferred hb
  have d2 : (w.alloc (.map es clk)).cell? ⟨bd, 2, none⟩ = some (.map (some ms)) := by simp [World.cell?, hb2]
  have d3 : (w.alloc (.map es clk)).cell? ⟨bd, 3, none⟩ = some L := by simp [World.cell?, hb2]
  have e2 : (w.alloc (.map es clk)).frozen? ⟨bd, 2, none⟩ = false := by simp [World.frozen?, hb2]
  have e3 : (w.alloc (.map es clk)).frozen? ⟨bd, 3, none⟩ = false := by simp [World.frozen?, hb2]
  have hbl : bd < w.heap.size := (Array.getElem?_eq_some_iff.1 hb).1
  have HFIN : Hid (GivesOp bd m.sync 0 fp w (.returned (.int .i64 0)) (((w.alloc (.map es clk)).setCell ⟨bd, 2, none⟩ (.map (some w.heap.size))).setCell ⟨bd, 3, none⟩ (.slice none 0 0))) := by
    have hkeep : ∀ k, k < w.heap.size → k ≠ bd → (((w.alloc (.map es clk)).setCell ⟨bd, 2, none⟩ (.map (some w.heap.size))).setCell ⟨bd, 3, none⟩ (.slice none 0 0)).heap[k]? = w.heap[k]? := fun k hk hn =>
      ((Below.heap_setCell _ _ _ _ hn).trans (Below.heap_setCell _ _ _ _ hn)).trans (Below.heap_alloc w _ k hk)
    have hcells : ∀ (b : Nat) (ds : Array Value) (T : TypeId) (fz : Nat × Nat), T ≠ 61 → w.heap[b]? = some (Obj.cells ds T fz) → (((w.alloc (.map es clk)).setCell ⟨bd, 2, none⟩ (.map (some w.heap.size))).setCell ⟨bd, 3, none⟩ (.slice none 0 0)).heap[b]? = some (Obj.cells ds T fz) := fun b ds T fz hT hbk => by
      refine (hkeep b (Array.getElem?_eq_some_iff.1 hbk).1 (fun e => ?_)).trans hbk
      subst e
      rw [hb] at hbk
      injection hbk with hbk
      injection hbk with _ hbk _
      exact hT hbk.symm
    have hsoft : Soft fp w (((w.alloc (.map es clk)).setCell ⟨bd, 2, none⟩ (.map (some w.heap.size))).setCell ⟨bd, 3, none⟩ (.slice none 0 0)) := fun b ds T fz _ h1 _ hbk => hcells b ds T fz h1 hbk
    have hmf : mf < w.heap.size := (Array.getElem?_eq_some_iff.1 hm).1
    have hmb : mf ≠ bd := fun e => by rw [e, hb] at hm; cases hm
    have hF' := hF
    obtain ⟨h0, g, ⟨es', clk', hm', him⟩, h1, h2⟩ := hF'
    rw [hm] at hm'
    cases hm'
    have hnew : (((w.alloc (.map es clk)).setCell ⟨bd, 2, none⟩ (.map (some w.heap.size))).setCell ⟨bd, 3, none⟩ (.slice none 0 0)).heap[w.heap.size]? = some (.map es clk) :=
      ((Below.heap_setCell _ _ _ _ (by show w.heap.size ≠ bd; omega)).trans (Below.heap_setCell _ _ _ _ (by show w.heap.size ≠ bd; omega))).trans (World.alloc_heap_new w _)
    refine ⟨rfl, fun b => fp b ∨ w.heap.size ≤ b, ⟨mf, w.heap.size, .slice none 0 0, ?_, .inl hfb, by omega, hF.soft hsoft (hkeep mf hmf hmb) (fun b h => .inl h), ?_, [], World.ownsRow_nil _ _ _ _, by simp [Value.ownBlock], fun i x hi => by simp [DM.sync] at hi⟩, ?_⟩
    · have := Blk.set_ (Blk.set_ (show Blk _ bd 61 _ from hb2) 2 (.map (some w.heap.size))) 3 (.slice none 0 0)
      simpa [Blk, DM.sync] using this
    · exact ⟨.inr (Nat.le_refl _), g, ⟨es, clk, hnew, him⟩, fun k v hv => ⟨(h1 k v hv).1, (h1 k v hv).2.1, (h1 k v hv).2.2.soft hsoft (fun b h => .inl h)⟩, h2⟩
    · exact ⟨rfl, rfl, rfl, by simp, fun k hk hn => hkeep k hk (fun e => hn (e ▸ hfb)), fun b h => h⟩
  obtain ⟨AL, nL, cL, rfl⟩ : ∃ A n c, L = .slice A n c := by
    obtain ⟨cs, h6, -⟩ := hL
    rcases h6.2 with ⟨e, e2⟩ | ⟨g, cap, cur, hv, _⟩
    · exact ⟨none, 0, 0, e⟩
    · exact ⟨_, _, _, hv⟩
  clear hb hb2 hm hF hS hL hba
  go_enter Tryz.func17, Tryz.ntmps17
  go_wp2_with (first | (go_at_call 40; refine HN.out.mono ?_; rintro e w' ⟨rfl, rfl⟩) | (go_at_call 41; refine HC.out.mono ?_; rintro e w' ⟨rfl, rfl⟩))
  go_ret
  have hfin := HFIN.out
  rw [World.setCell_alloc_past (hn := hbl), World.setCell_alloc_past (hn := by simpa using hbl)] at hfin
  exact hfin
end Go.Proofs.YtiajggmnfaidjaaGreatDoor
