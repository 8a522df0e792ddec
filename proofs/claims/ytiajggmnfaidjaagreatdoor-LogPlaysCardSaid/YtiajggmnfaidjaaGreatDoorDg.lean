/-
  The disk: Crash.
-/
import Derived.Test.YtiajggmnfaidjaaGreatDoorDf
set_option linter.unusedVariables false
set_option linter.unusedSimpArgs false
set_option linter.unusedVariables false
set_option linter.unusedSimpArgs false
namespace Go.Proofs.YtiajggmnfaidjaaGreatDoor
open Go.RowKit

/-- A disk, its parts named. -/
structure DiskX (w : World) (bd mf ms : Nat) (L : Value) (cs : List Value) (m : DM) (fp : Nat → Prop) : Prop where
  blk : w.heap[bd]? = some (.cells #[.map (some mf), .int .i64 m.room, .map (some ms), L] 61 (0, 0))
  own : fp bd
  ne : mf ≠ ms
  files : FilesAt w mf m.files fp
  synced : FilesAt w ms m.synced fp
  row : w.ownsRow 0 93 5 L m.loose.length cs
  rowfp : ∀ g, L.ownBlock = some g → fp g
  things : ThingsAt w cs m.loose fp
theorem DiskX.is {w : World} {bd mf ms : Nat} {L : Value} {cs : List Value} {m : DM} {fp : Nat → Prop} (h : DiskX w bd mf ms L cs m fp) : DiskIs w bd m fp := ⟨mf, ms, L, h.blk, h.own, h.ne, h.files, h.synced, cs, h.row, h.rowfp, h.things⟩
theorem DiskIs.x {w : World} {bd : Nat} {m : DM} {fp : Nat → Prop} (h : DiskIs w bd m fp) : ∃ mf ms L cs, DiskX w bd mf ms L cs m fp := by
  obtain ⟨mf, ms, L, h1, h2, h3, h4, h5, cs, h6, h7, h8⟩ := h
  exact ⟨mf, ms, L, cs, h1, h2, h3, h4, h5, h6, h7, h8⟩
theorem DiskX.bel {w w' : World} {bd mf ms : Nat} {L : Value} {cs : List Value} {m : DM} {fp : Nat → Prop} (h : DiskX w bd mf ms L cs m fp) (hb : Bel w w') : DiskX w' bd mf ms L cs m fp :=
  ⟨hb.deferred h.blk, h.own, h.ne, h.files.kept (fun b _ hl => hb.block b hl) (fun _ h => h), h.synced.kept (fun b _ hl => hb.block b hl) (fun _ h => h), ownsRow_kept h.row (fun b _ hl => hb.block b hl), h.rowfp, h.things.kept (fun b _ hl => hb.block b hl) (fun _ h => h)⟩
theorem DiskX.mono {w : World} {bd mf ms : Nat} {L : Value} {cs : List Value} {m : DM} {fp fp' : Nat → Prop} (h : DiskX w bd mf ms L cs m fp) (hf : ∀ b, fp b → fp' b) : DiskX w bd mf ms L cs m fp' :=
  ⟨h.blk, hf _ h.own, h.ne, h.files.weaken hf, h.synced.weaken hf, h.row, fun g hg => hf _ (h.rowfp g hg), h.things.kept (fun _ _ _ => rfl) hf⟩
theorem FilesAt.block {w : World} {mb : Nat} {f : Int → List UInt8} {fp : Nat → Prop} (h : FilesAt w mb f fp) : ∃ es clk, w.heap[mb]? = some (.map es clk) := by
  obtain ⟨-, g, ⟨es, clk, hb, -⟩, -⟩ := h
  exact ⟨es, clk, hb⟩
/-- The files have turned, nothing else of it has. -/
theorem DiskX.files_turn {w w' : World} {bd mf ms : Nat} {L : Value} {cs : List Value} {m : DM} {fp fp' : Nat → Prop} (h : DiskX w bd mf ms L cs m fp) {f' : Int → List UInt8} (hF : FilesAt w' mf f' fp') (hg : w.grownBy w' (some mf)) (hf : ∀ b, fp b → fp' b) :
    DiskX w' bd mf ms L cs { m with files := f' } fp' := by
  obtain ⟨es, clk, hm⟩ := h.files.block
  have hcells : ∀ (b : Nat) (ds : Array Value) (T : TypeId) (fz : Nat × Nat), w.heap[b]? = some (Obj.cells ds T fz) → w'.heap[b]? = some (Obj.cells ds T fz) := fun b ds T fz hb => by
    refine (hg.block b (Array.getElem?_eq_some_iff.1 hb).1 (fun e => ?_)).trans hb
    cases e
    rw [hm] at hb
    cases hb
  have hsoft : Soft fp w w' := fun b ds T fz _ _ _ hb => hcells b ds T fz hb
  obtain ⟨es', clk', hm'⟩ := h.synced.block
  refine ⟨hcells _ _ _ _ h.blk, hf _ h.own, h.ne, hF, h.synced.soft hsoft (hg.block ms (Array.getElem?_eq_some_iff.1 hm').1 (fun e => h.ne (by cases e; rfl))) hf, ?_, fun g hg => hf _ (h.rowfp g hg), h.things.soft hsoft hf⟩
  refine ⟨h.row.1, ?_⟩
  rcases h.row.2 with h2 | ⟨g, cap, cur, hv, hgg, hh, r⟩
  · exact .inl h2
  · exact .inr ⟨g, cap, cur, hv, hgg, hcells _ _ _ _ hh, r⟩
/-- One thing's cells, in the row. -/
theorem DiskX.thing {w : World} {bd mf ms : Nat} {L : Value} {cs : List Value} {m : DM} {fp : Nat → Prop} (h : DiskX w bd mf ms L cs m fp) (k : Nat) (x : Th) (hk : m.loose[k]? = some x) :
    ∃ g cap c0 c1 c2 c3 c4, L = .slice (some ⟨g, 0, none⟩) m.loose.length cap ∧ ThingAt w [c0, c1, c2, c3, c4] x fp ∧ w.cell? ⟨g, k * 5, none⟩ = some c0 ∧ w.cell? ⟨g, k * 5 + 1, none⟩ = some c1 ∧ w.cell? ⟨g, k * 5 + 2, none⟩ = some c2 ∧ w.cell? ⟨g, k * 5 + 3, none⟩ = some c3 ∧ w.cell? ⟨g, k * 5 + 4, none⟩ = some c4 := by
  have hlt := (List.getElem?_eq_some_iff.1 hk).1
  have ht := h.things k x hk
  have hlen := h.row.1
  rcases h.row.2 with ⟨_, hz⟩ | ⟨g, cap, cur, hv, _, hh, h3, h4, h5, h6⟩
  · omega
  · obtain ⟨c0, c1, c2, c3, c4, hcs⟩ : ∃ c0 c1 c2 c3 c4, (cs.drop (k * 5)).take 5 = [c0, c1, c2, c3, c4] := by
      have : ((cs.drop (k * 5)).take 5).length = 5 := by simp; omega
      match (cs.drop (k * 5)).take 5, this with
      | [a, b, c, d, e], _ => exact ⟨a, b, c, d, e, rfl⟩
    have hc : ∀ j v, [c0, c1, c2, c3, c4][j]? = some v → w.cell? ⟨g, k * 5 + j, none⟩ = some v := fun j v hj => by
      have hj5 : j < 5 := by have := (List.getElem?_eq_some_iff.1 hj).1; simpa using this
      rw [← hcs, List.getElem?_take, if_pos hj5, List.getElem?_drop, ← h6, List.getElem?_take, if_pos (by omega)] at hj
      simp only [World.cell?, hh]
      simpa using hj
    rw [hcs] at ht
    exact ⟨g, cap, c0, c1, c2, c3, c4, hv, ht, hc 0 _ rfl, hc 1 _ rfl, hc 2 _ rfl, hc 3 _ rfl, hc 4 _ rfl⟩

/-- What a crash does with the k-th thing. -/
def crashF (keep torn : Int) (f : Int → List UInt8) (k : Int) (x : Th) : Int → List UInt8 :=
  if k < keep then doneF f x else if k = keep ∧ x.cuts = false then doneF f ⟨x.file, x.bytes.take torn.toNat, 0, false⟩ else f
def crashTo (m : DM) (keep torn : Int) : Nat → (Int → List UInt8)
  | 0 => m.synced
  | k + 1 => match m.loose[k]? with
    | some x => crashF keep torn (crashTo m keep torn k) k x
    | none => crashTo m keep torn k
theorem crashTo_succ {m : DM} {keep torn : Int} {k : Nat} {x : Th} (h : m.loose[k]? = some x) : crashTo m keep torn (k + 1) = crashF keep torn (crashTo m keep torn k) k x := by
  simp [crashTo, h]
def DM.crash (m : DM) (keep torn : Int) : DM := ({ m with files := crashTo m keep torn m.loose.length } : DM).sync
theorem crash_arg {w : World} {bd : Nat} {m : DM} {fp : Nat → Prop} (h : DiskIs w bd m fp) (hr : m.room ≠ 0) (keep torn : Int) (hk : keep < 0 ∨ torn < 0) :
    Calls Tryz.prog 18 #[.pointer (some ⟨bd, 0, none⟩), .int .i64 keep, .int .i64 torn] w (GivesOp bd m 2 fp w) := by
  have HN := Lib.hid (none_disk h hr)
  have HFIN : Hid (GivesOp bd m 2 fp w (.returned (.int .i64 2)) w) := GivesOp.same h (Bel.refl w)
  clear h
  by_cases hk1 : keep < 0
  · go_enter Tryz.func18, Tryz.ntmps18
    go_wp2_with (go_at_call 40; refine HN.out.mono ?_; rintro e w' ⟨rfl, rfl⟩)
    go_ret
    exact HFIN.out
  · have hk2 : torn < 0 := by omega
    clear hk
    go_enter Tryz.func18, Tryz.ntmps18
    go_wp2_with (go_at_call 40; refine HN.out.mono ?_; rintro e w' ⟨rfl, rfl⟩)
    go_ret
    exact HFIN.out
end Go.Proofs.YtiajggmnfaidjaaGreatDoor
