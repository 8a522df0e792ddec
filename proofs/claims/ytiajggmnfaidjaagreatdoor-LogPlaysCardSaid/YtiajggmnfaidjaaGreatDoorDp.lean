/-
  The disk: do.
-/
import Derived.Test.YtiajggmnfaidjaaGreatDoorDo
set_option linter.unusedVariables false
set_option linter.unusedSimpArgs false
set_option linter.unusedVariables false
set_option linter.unusedSimpArgs false
namespace Go.Proofs.YtiajggmnfaidjaaGreatDoor
open Go.RowKit

theorem DiskIs.mono {w : World} {bd : Nat} {m : DM} {fp fp' : Nat → Prop} (h : DiskIs w bd m fp) (hf : ∀ b, fp b → fp' b) : DiskIs w bd m fp' := by
  obtain ⟨mf, ms, L, h1, h2, h3, h4, h5, h6⟩ := h
  exact ⟨mf, ms, L, h1, hf _ h2, h3, h4.weaken hf, h5.weaken hf, h6.kept (fun _ _ _ => rfl) hf⟩
theorem infoThing : (Tryz.prog.info? 93).map (fun i => (i.zero, i.size, i.bytes)) = some (some (.agg #[.int .i64 0, .nilFunc, .slice none 0 0, .int .i64 0, .bool false]), 5, 56) := by kernel_rfl
theorem ThingAt.one {w : World} {c0 c1 c2 c3 c4 : Value} {x : Th} {fp : Nat → Prop} (h : ThingAt w [c0, c1, c2, c3, c4] x fp) : ∀ u ∈ [c0, c1, c2, c3, c4], u.oneCell' = true := by
  rcases h.2 with ⟨_, _, bx, v, _, hcs, _, A, cap, rfl, _⟩ | ⟨_, _, _, _, bx, _, hcs, _⟩
  all_goals
    intro u hu
    rw [hcs] at hu
    simp at hu
    rcases hu with rfl | rfl | rfl | rfl | rfl <;> rfl
theorem ThingsAt.push {w : World} {cs : List Value} {l : List Th} {fp : Nat → Prop} {c0 c1 c2 c3 c4 : Value} {x : Th} (h : ThingsAt w cs l fp) (hl : cs.length = l.length * 5) (hx : ThingAt w [c0, c1, c2, c3, c4] x fp) : ThingsAt w (cs ++ [c0, c1, c2, c3, c4]) (l ++ [x]) fp := by
  intro i y hi
  by_cases hlt : i < l.length
  · rw [List.getElem?_append_left hlt] at hi
    have := h i y hi
    rw [List.drop_append_of_le_length (by omega), List.take_append_of_le_length (by simp; omega)]
    exact this
  · rw [List.getElem?_append_right (by omega)] at hi
    have h0 : i - l.length = 0 := by
      have := (List.getElem?_eq_some_iff.1 hi).1
      simp at this
      omega
    rw [h0] at hi
    simp at hi
    subst hi
    obtain rfl : i = l.length := by omega
    rw [List.drop_append, List.drop_eq_nil_of_le (by omega)]
    have : l.length * 5 - cs.length = 0 := by omega
    rw [this]
    exact hx
/-- Every cell that was there reads as before. -/
def CellsKept (w1 w2 : World) : Prop := ∀ (p : Addr) (v : Value), w1.cell? p = some v → w2.cell? p = some v
theorem keepM {w1 w2 : World} {mf : Nat} (hg : w1.grownBy w2 (some mf)) (hm : ∃ es clk, w1.heap[mf]? = some (.map es clk)) : CellsKept w1 w2 := fun p v h => grown_c hg h (fun e => by
  cases e
  obtain ⟨es, clk, hm⟩ := hm
  simp [World.cell?, hm] at h)
theorem keepB6 {w1 w2 : World} {p0 p1 p2 p3 p4 p5 : Addr} {v0 v1 v2 v3 v4 v5 : Value} (hk : CellsKept w1 w2) (h : w1.cell? p0 = some v0 ∧ w1.cell? p1 = some v1 ∧ w1.cell? p2 = some v2 ∧ w1.cell? p3 = some v3 ∧ w1.cell? p4 = some v4 ∧ w1.cell? p5 = some v5) :
    w2.cell? p0 = some v0 ∧ w2.cell? p1 = some v1 ∧ w2.cell? p2 = some v2 ∧ w2.cell? p3 = some v3 ∧ w2.cell? p4 = some v4 ∧ w2.cell? p5 = some v5 := ⟨hk _ _ h.1, hk _ _ h.2.1, hk _ _ h.2.2.1, hk _ _ h.2.2.2.1, hk _ _ h.2.2.2.2.1, hk _ _ h.2.2.2.2.2⟩
theorem far_row {w1 w2 W : World} {bd base size n : Nat} {c : Array Value} {T e : TypeId} {fz : Nat × Nat} {L : Value} {cs : List Value} (hb : w1.heap[bd]? = some (.cells c T fz)) (hown : w1.ownsRow base e size L n cs) (hT : T ≠ e)
    (hg : W.grownBy w2 L.ownBlock) (hW : Bel w1 W) : w2.heap[bd]? = some (.cells c T fz) := by
  have hbl := (Array.getElem?_eq_some_iff.1 hb).1
  refine (hg.block bd (Nat.lt_of_lt_of_le hbl hW.size) (fun e' => ?_)).trans (hW.deferred hb)
  rcases hown.2 with ⟨rfl, _⟩ | ⟨g, cap, cur, rfl, _, hh, _⟩
  · simp [Value.ownBlock] at e'
  · simp [Value.ownBlock] at e'
    subst e'
    rw [hb] at hh
    injection hh with hh
    injection hh with _ hh _
    exact hT hh
theorem reads5 (w : World) (T : TypeId) (c0 c1 c2 c3 c4 : Value) : Reads (w.alloc (.cells #[c0, c1, c2, c3, c4] T)) (w.heap.size + 1) 5 (some ⟨w.heap.size, 0, none⟩) 1 [c0, c1, c2, c3, c4] := by
  refine ⟨rfl, fun _ => ⟨_, rfl, Nat.lt_succ_self _, fun j u hu => ?_⟩⟩
  have hb := Blk.new w T #[c0, c1, c2, c3, c4]
  have : (Addr.add ⟨w.heap.size, 0, none⟩ j) = ⟨w.heap.size, j, none⟩ := by unfold Addr.add; split <;> simp_all
  rw [this, hb.cell]
  simpa using hu
/-- A disk, when something was done. -/
def GivesDo (bd : Nat) (m : DM) (x : Th) (fp : Nat → Prop) (w : World) (e : Ending) (w' : World) : Prop :=
  e = .returned (.tuple #[]) ∧ DiskIs w' bd { m with files := doneF m.files x, loose := m.loose ++ [x] } (fun b => fp b ∨ w.heap.size ≤ b) ∧ Opp fp (fun b => fp b ∨ w.heap.size ≤ b) w w'
theorem do_fin {w W w1 w2 : World} {bd mf ms g2 cap2 cL : Nat} {AL : Option Addr} {m : DM} {fp : Nat → Prop} {x : Th} {c0 c1 c2 c3 c4 : Value} {cs : List Value} {o : Obj} (hfb : fp bd) (hne : mf ≠ ms)
    (hb : w.heap[bd]? = some (.cells #[.map (some mf), .int .i64 m.room, .map (some ms), .slice AL m.loose.length cL] 61 (0, 0))) (hbW : Bel w W) (hMF : ∃ es clk, W.heap[mf]? = some (.map es clk)) (hg1 : W.grownBy w1 (some mf)) (hF1 : FilesAt w1 mf (doneF m.files x) (fun b => fp b ∨ W.heap.size ≤ b))
    (hcell : ∀ (b : Nat) (ds : Array Value) (T : TypeId) (fz : Nat × Nat), w.heap[b]? = some (Obj.cells ds T fz) → w1.heap[b]? = some (Obj.cells ds T fz)) (hS : FilesAt w ms m.synced fp) (hLfp : ∀ g, (Value.slice AL m.loose.length cL).ownBlock = some g → fp g)
    (hTs : ThingsAt w cs m.loose fp) (hx : ThingAt w [c0, c1, c2, c3, c4] x fp) (hown : w.ownsRow 0 93 5 (.slice AL m.loose.length cL) m.loose.length cs)
    (hz : w2.heap[bd]? = some (.cells #[.map (some mf), .int .i64 m.room, .map (some ms), .slice AL m.loose.length cL] 61 (0, 0)))
    (hown2 : w2.ownsRow 0 93 5 (.slice (some ⟨g2, 0, none⟩) (m.loose.length + 1) cap2) (m.loose.length + 1) (cs ++ [c0, c1, c2, c3, c4])) (hgr2 : (w1.alloc o).drew.grownBy w2 (Value.slice AL m.loose.length cL).ownBlock)
    (hat2 : (Value.slice (some ⟨g2, 0, none⟩) (m.loose.length + 1) cap2).ownBlock = (Value.slice AL m.loose.length cL).ownBlock ∨ (Value.slice (some ⟨g2, 0, none⟩) (m.loose.length + 1) cap2).ownBlock = some (w1.alloc o).drew.heap.size) :
    GivesDo bd m x fp w (.returned (.tuple #[])) (w2.setCell ⟨bd, 3, none⟩ (.slice (some ⟨g2, 0, none⟩) (m.loose.length + 1) cap2)) := by
  have hsz1 : w.heap.size ≤ w1.heap.size := Nat.le_trans hbW.size hg1.size
  have hsz2 : w1.heap.size + 1 ≤ w2.heap.size := by have := hgr2.size; simpa using this
  have hbl : bd < w.heap.size := (Array.getElem?_eq_some_iff.1 hb).1
  -- the row's block
  have hrow : ∀ g, (Value.slice AL m.loose.length cL).ownBlock = some g → ∃ cur, w.heap[g]? = some (.cells cur 93 (0, 0)) := fun g hg => by
    rcases hown.2 with ⟨e, _⟩ | ⟨g', cap, cur, hv, _, hh, _⟩
    · rw [e] at hg; simp [Value.ownBlock] at hg
    · rw [hv] at hg; simp [Value.ownBlock] at hg; subst hg; exact ⟨cur, hh⟩
  -- blocks from w1 on
  have hk12 : ∀ k, k < w1.heap.size → (Value.slice AL m.loose.length cL).ownBlock ≠ some k → w2.heap[k]? = w1.heap[k]? := fun k hk hn =>
    (hgr2.block k (by simp; omega) (fun e => hn e.symm)).trans (Below.heap_alloc w1 o k hk)
  have hkf : ∀ k, k < w1.heap.size → (Value.slice AL m.loose.length cL).ownBlock ≠ some k → k ≠ bd → (w2.setCell ⟨bd, 3, none⟩ (.slice (some ⟨g2, 0, none⟩) (m.loose.length + 1) cap2)).heap[k]? = w1.heap[k]? := fun k hk hn hb' =>
    (Below.heap_setCell _ _ _ _ hb').trans (hk12 k hk hn)
  have hsoft1 : Soft (fun b => fp b ∨ W.heap.size ≤ b) w1 (w2.setCell ⟨bd, 3, none⟩ (.slice (some ⟨g2, 0, none⟩) (m.loose.length + 1) cap2)) := fun b ds T fz _ h1 h2 hbk => by
    have hl := (Array.getElem?_eq_some_iff.1 hbk).1
    refine (hkf b hl (fun e => ?_) (fun e => ?_)).trans hbk
    · obtain ⟨cur, hc⟩ := hrow b e
      have := hcell _ _ _ _ hc
      rw [this] at hbk
      injection hbk with hbk
      injection hbk with _ hbk _
      exact h2 hbk.symm
    · subst e
      have := hcell _ _ _ _ hb
      rw [this] at hbk
      injection hbk with hbk
      injection hbk with _ hbk _
      exact h1 hbk.symm
  have hsoft : Soft fp w (w2.setCell ⟨bd, 3, none⟩ (.slice (some ⟨g2, 0, none⟩) (m.loose.length + 1) cap2)) := fun b ds T fz hf h1 h2 hbk => hsoft1 b ds T fz (.inl hf) h1 h2 (hcell _ _ _ _ hbk)
  have hmapk : ∀ (k : Nat) (es : Array MapEntry) (clk : Nat), w1.heap[k]? = some (Obj.map es clk) → (w2.setCell ⟨bd, 3, none⟩ (.slice (some ⟨g2, 0, none⟩) (m.loose.length + 1) cap2)).heap[k]? = w1.heap[k]? := fun k es clk hk => by
    refine hkf k (Array.getElem?_eq_some_iff.1 hk).1 (fun e => ?_) (fun e => ?_)
    · obtain ⟨cur, hc⟩ := hrow k e
      rw [hcell _ _ _ _ hc] at hk
      cases hk
    · subst e
      rw [hcell _ _ _ _ hb] at hk
      cases hk
  refine ⟨rfl, ⟨mf, ms, .slice (some ⟨g2, 0, none⟩) (m.loose.length + 1) cap2, ?_, .inl hfb, hne, ?_, ?_, cs ++ [c0, c1, c2, c3, c4], ?_, ?_, ?_⟩, ?_⟩
  · have := Blk.set_ (show Blk w2 bd 61 _ from hz) 3 (.slice (some ⟨g2, 0, none⟩) (m.loose.length + 1) cap2)
    simpa [Blk] using this
  · have hF1' := hF1
    obtain ⟨-, g, ⟨es, clk, hm, -⟩, -⟩ := hF1'
    exact hF1.soft hsoft1 (hmapk mf es clk hm) (fun b h => h.elim .inl (fun h => .inr (Nat.le_trans hbW.size h)))
  · have hS' := hS
    obtain ⟨-, g, ⟨es, clk, hm, -⟩, -⟩ := hS'
    have hmW := hbW.deferred hm
    have hm1 : w1.heap[ms]? = some (.map es clk) := (hg1.block ms (Array.getElem?_eq_some_iff.1 hmW).1 (fun e => hne (by cases e; rfl))).trans hmW
    exact hS.soft hsoft ((hmapk ms es clk hm1).trans (hm1.trans hm.symm)) (fun b h => .inl h)
  · simp only [List.length_append, List.length_cons, List.length_nil, Nat.zero_add]
    refine ownsRow_kept hown2 (fun b hb' hl => Below.heap_setCell _ _ _ _ (fun e => ?_))
    simp [Value.ownBlock] at hb'
    subst hb'
    simp at e
    subst e
    obtain ⟨_, h⟩ := hown2
    rcases h with ⟨h, _⟩ | ⟨g', cap, cur, hv, _, hh, _⟩
    · simp at h
    · simp at hv
      obtain ⟨rfl, rfl⟩ := hv
      rw [hz] at hh
      injection hh with hh
      injection hh with _ hh _
      exact absurd hh (by decide)
  · intro g hg
    rcases hat2 with h | h
    · exact .inl (hLfp g (h.symm.trans hg))
    · rw [h] at hg
      simp at hg
      exact .inr (by omega)
  · have hle : cs.length = m.loose.length * 5 := hown.1
    exact (hTs.push hle hx).soft hsoft (fun b h => .inl h)
  · refine ⟨?_, ?_, ?_, ?_, fun k hk hn => ?_, fun b h => h⟩
    · show w2.os = w.os
      exact hgr2.os.trans (hg1.os.trans hbW.os)
    · show w2.tape = w.tape
      exact hgr2.tape.trans (hg1.tape.trans hbW.tape)
    · show w2.output = w.output
      exact hgr2.output.trans (hg1.output.trans hbW.output)
    · simp only [World.size_setCell]; omega
    · refine (hkf k (by omega) (fun e => hn (hLfp k e)) (fun e => hn (e ▸ hfb))).trans ?_
      refine (hg1.block k (Nat.lt_of_lt_of_le hk hbW.size) (fun e => ?_)).trans (hbW.block k hk)
      cases e
      rcases hF1.1 with h | h
      · exact hn h
      · have := hbW.size; omega
set_option maxRecDepth 100000 in
set_option maxHeartbeats 400000 in
theorem do_any {w : World} {bd : Nat} {m : DM} {fp : Nat → Prop} {x : Th} {c0 c1 c2 c3 c4 : Value} (hD : DiskIs w bd m fp) (hx : ThingAt w [c0, c1, c2, c3, c4] x fp) (hl : (m.files x.file).length + x.bytes.length ≤ manyB) (hn : m.loose.length ≤ 1000000) :
    Calls Tryz.prog 49 #[.pointer (some ⟨bd, 0, none⟩), .agg #[c0, c1, c2, c3, c4]] w (GivesDo bd m x fp w) := by
  obtain ⟨mf, ms, L, hb, hfb, hne, hF, hS, cs, hown, hLfp, hTs⟩ := hD
  obtain ⟨i0, hi0, hz0, hz1, hz2⟩ := info_parts infoThing
  obtain ⟨W, hW⟩ : ∃ W, W = (w.alloc (.cells #[c0, c1, c2, c3, c4] 93)).drew := ⟨_, rfl⟩
  have hbW : Bel w W := by rw [hW]; exact ((Bel.refl w).alloc _).drew
  have hFW := hF.kept (w' := W) (fun b _ hl => hbW.block b hl) (fun _ h => h)
  have hxW := hx.kept (w' := W) (fun b _ hl => hbW.block b hl) (fun _ h => h)
  have HC := Lib.hid (done_any hFW hxW hl)
  have k0 : w.cell? ⟨bd, 0, none⟩ = some (.map (some mf)) := by simp [World.cell?, hb]
  have hS0 : (w.alloc (.cells #[c0, c1, c2, c3, c4] 93)).drew.cell? ⟨bd, 0, none⟩ = some (.map (some mf)) ∧ (w.alloc (.cells #[c0, c1, c2, c3, c4] 93)).drew.cell? ⟨w.heap.size, 0, none⟩ = some c0 ∧ (w.alloc (.cells #[c0, c1, c2, c3, c4] 93)).drew.cell? ⟨w.heap.size, 1, none⟩ = some c1 ∧ (w.alloc (.cells #[c0, c1, c2, c3, c4] 93)).drew.cell? ⟨w.heap.size, 2, none⟩ = some c2 ∧ (w.alloc (.cells #[c0, c1, c2, c3, c4] 93)).drew.cell? ⟨w.heap.size, 3, none⟩ = some c3 ∧ (w.alloc (.cells #[c0, c1, c2, c3, c4] 93)).drew.cell? ⟨w.heap.size, 4, none⟩ = some c4 :=
    ⟨(((Bel.refl w).alloc _).drew).c k0, by go_simp, by go_simp, by go_simp, by go_simp, by go_simp⟩
  have HMF : Hid (∃ es clk, W.heap[mf]? = some (.map es clk)) := by
    obtain ⟨-, g, ⟨es, clk, hm, -⟩, -⟩ := hFW
    exact ⟨es, clk, hm⟩
  have k0' : (w.alloc (.cells #[c0, c1, c2, c3, c4] 93)).cell? ⟨bd, 0, none⟩ = some (.map (some mf)) := ((Bel.refl w).alloc _).c k0
  have HW := Lib.hid hW
  have HBW := Lib.hid hbW
  have HX1 := Lib.hid hx.one
  have hxr := Lib.hid hx
  clear hFW hxW hl hW hbW hx k0
  go_enter Tryz.func49, Tryz.ntmps49
  go_wp2
  go_region_held3 (fun w' => w'.cell? ⟨bd, 0, none⟩ = some (.map (some mf)) ∧ w'.cell? ⟨w.heap.size, 0, none⟩ = some c0 ∧ w'.cell? ⟨w.heap.size, 1, none⟩ = some c1 ∧ w'.cell? ⟨w.heap.size, 2, none⟩ = some c2 ∧ w'.cell? ⟨w.heap.size, 3, none⟩ = some c3 ∧ w'.cell? ⟨w.heap.size, 4, none⟩ = some c4)
    (first | exact hS0 | exact keepB6 (by assumption) (by assumption))
    ((go_at_call 43; rw [← HW.out]; refine HC.out.mono ?_; rintro e w1 ⟨rfl, hF1, hg1⟩; have hg1' := keepM hg1 HMF.out; rw [HW.out] at hg1'))
  rename_i hHeld
  have hS1 := hHeld
  clear hHeld hS0
  obtain ⟨q0, q1, q2, q3, q4, q5⟩ := hS1
  have hcell : ∀ (b : Nat) (ds : Array Value) (T : TypeId) (fz : Nat × Nat), w.heap[b]? = some (Obj.cells ds T fz) → w1.heap[b]? = some (Obj.cells ds T fz) := fun b ds T fz hb => by
    have hbw := HBW.out.deferred hb
    refine (hg1.block b (Array.getElem?_eq_some_iff.1 hbw).1 (fun e => ?_)).trans hbw
    cases e
    obtain ⟨es, clk, hm⟩ := HMF.out
    rw [hm] at hbw
    cases hbw
  have hb1 := hcell _ _ _ _ hb
  have r3 : w1.cell? ⟨bd, 3, none⟩ = some L := by simp [World.cell?, hb1]
  have r3f : w1.frozen? ⟨bd, 3, none⟩ = false := by simp [World.frozen?, hb1]
  have hown1 : w1.ownsRow 0 93 5 L m.loose.length cs := by
    refine ⟨hown.1, ?_⟩
    rcases hown.2 with h2 | ⟨g, cap, cur, hv, hg, hh, r⟩
    · exact .inl h2
    · exact .inr ⟨g, cap, cur, hv, hg, hcell _ _ _ _ hh, r⟩
  obtain ⟨AL, cL, rfl⟩ : ∃ A c, L = .slice A m.loose.length c := by
    rcases hown.2 with ⟨e, e2⟩ | ⟨g, cap, cur, hv, _⟩
    · exact ⟨none, 0, by rw [e, e2]⟩
    · exact ⟨_, _, hv⟩
  have HG1 := Lib.hid hg1
  have HF1 := Lib.hid hF1
  have HCELL := Lib.hid hcell
  have HB1 := Lib.hid hb1
  have HB := Lib.hid hb
  have HOWN1 := Lib.hid hown1
  have HOWN := Lib.hid hown
  have HTS := Lib.hid hTs
  have HLFP := Lib.hid hLfp
  have HS := Lib.hid hS
  have HF := Lib.hid hF
  have hbl : bd < w1.heap.size := (Array.getElem?_eq_some_iff.1 hb1).1
  have hwl : w.heap.size < w1.heap.size := World.block_lt_of_cell? (w := w1) (a := ⟨w.heap.size, 0, none⟩) q1
  have HONE : Hid (m.loose.length + 1 ≤ maxLen ∧ (m.loose.length + 1) * 56 ≤ 140737488355328) := ⟨by unfold maxLen; omega, by omega⟩
  clear hg1 hF1 hcell hb1 hown1 hb hown hTs hLfp hS hF hn hg1'
  go_wp2
  go_region_law (refine step_append_any _ rfl (.tmp 14) (.tmp 16) 59 rfl 0 93 i0 _ 5 56 Tryz.underlying59 hi0 hz0 hz1 hz2 rfl (by decide) (.slice AL m.loose.length cL) m.loose.length cs (by simp [Act.eval, Act.put]) (HOWN1.out.alloc _) (w1.heap.size + 1) (some ⟨w1.heap.size, 0, none⟩) 1 1 [c0, c1, c2, c3, c4] (by simp [Act.eval, Act.put]) (reads5 w1 93 c0 c1 c2 c3 c4) HX1.out HONE.out.1 HONE.out.2 (Nat.zero_le _) ?_; intro v' w2 hown2 hgr2 hat2; obtain ⟨g2, cap2, rfl⟩ := ownsRow_succ hown2; have z := far_row HB1.out HOWN1.out (by decide) hgr2 (by first | exact ((Bel.refl w1).alloc _).drew | exact ((Bel.refl w1).drew).alloc _); have z3 : w2.cell? ⟨bd, 3, none⟩ = some (.slice AL m.loose.length cL) := (by simp [World.cell?, z]); have z4 : w2.frozen? ⟨bd, 3, none⟩ = false := (by simp [World.frozen?, z]); have Z := Lib.hid z; clear z)
  all_goals
    go_end0
    exact do_fin hfb hne HB.out HBW.out HMF.out HG1.out HF1.out HCELL.out HS.out HLFP.out HTS.out hxr.out HOWN.out Z.out hown2 hgr2 hat2
end Go.Proofs.YtiajggmnfaidjaaGreatDoor
