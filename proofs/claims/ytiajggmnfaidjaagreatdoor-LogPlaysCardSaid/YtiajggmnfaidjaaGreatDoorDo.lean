/-
  The disk: something is done to the files; and is loose then.
-/
import Derived.Test.YtiajggmnfaidjaaGreatDoorDb2
set_option linter.unusedVariables false
set_option linter.unusedSimpArgs false
set_option linter.unusedVariables false
set_option linter.unusedSimpArgs false
namespace Go.Proofs.YtiajggmnfaidjaaGreatDoor
open Go.RowKit

theorem BytesAt.kept' {w w' : World} {v : Value} {s : List UInt8} {fp fp' : Nat → Prop} (h : BytesAt w v s fp) (hk : ∀ (b : Nat) (cs : Array Value) (fz : Nat × Nat), fp b → w.heap[b]? = some (Obj.cells cs 5 fz) → w'.heap[b]? = some (Obj.cells cs 5 fz)) (hf : ∀ b, fp b → b < w.heap.size → fp' b) : BytesAt w' v s fp' := by
  obtain ⟨A, cap, h1, h2, h3, h4, h4', h5⟩ := h
  refine ⟨A, cap, h1, h2, h3, h4, h4', fun hn => ?_⟩
  obtain ⟨b, off, cs, fz, h6, h6', h7, h8⟩ := h5 hn
  exact ⟨b, off, cs, fz, h6, hf b h6' (Array.getElem?_eq_some_iff.1 h7).1, hk _ _ _ h6' h7, h8⟩
/-- The cells of fp that are neither a disk's nor things' lie as they lay. -/
def Soft (fp : Nat → Prop) (w w' : World) : Prop := ∀ (b : Nat) (cs : Array Value) (T : TypeId) (fz : Nat × Nat), fp b → T ≠ 61 → T ≠ 93 → w.heap[b]? = some (Obj.cells cs T fz) → w'.heap[b]? = some (Obj.cells cs T fz)
theorem BytesAt.soft {w w' : World} {v : Value} {s : List UInt8} {fp fp' : Nat → Prop} (h : BytesAt w v s fp) (hk : Soft fp w w') (hf : ∀ b, fp b → fp' b) : BytesAt w' v s fp' := h.kept' (fun b cs fz hb hc => hk b cs _ fz hb (by decide) (by decide) hc) (fun b h _ => hf b h)
theorem ThingAt.soft {w w' : World} {cs : List Value} {x : Th} {fp fp' : Nat → Prop} (h : ThingAt w cs x fp) (hk : Soft fp w w') (hf : ∀ b, fp b → fp' b) : ThingAt w' cs x fp' := by
  refine ⟨h.1, ?_⟩
  rcases h.2 with ⟨h1, h2, bx, v, h3, h4, h5, h6⟩ | ⟨h1, h2, h3, h4, bx, h5, h6, h7⟩
  · exact .inl ⟨h1, h2, bx, v, hf _ h3, h4, hk bx _ _ _ h3 (by decide) (by decide) h5, h6.soft hk hf⟩
  · exact .inr ⟨h1, h2, h3, h4, bx, hf _ h5, h6, hk bx _ _ _ h5 (by decide) (by decide) h7⟩
theorem ThingsAt.soft {w w' : World} {cs : List Value} {l : List Th} {fp fp' : Nat → Prop} (h : ThingsAt w cs l fp) (hk : Soft fp w w') (hf : ∀ b, fp b → fp' b) : ThingsAt w' cs l fp' := fun i x hi => (h i x hi).soft hk hf
theorem FilesAt.soft {w w' : World} {mb : Nat} {f : Int → List UInt8} {fp fp' : Nat → Prop} (h : FilesAt w mb f fp) (hk : Soft fp w w') (hm : w'.heap[mb]? = w.heap[mb]?) (hf : ∀ b, fp b → fp' b) : FilesAt w' mb f fp' := by
  obtain ⟨h0, g, hg, h1, h2⟩ := h
  refine ⟨hf _ h0, g, hg.of_block hm, fun k v hv => ?_, h2⟩
  obtain ⟨a, b, c⟩ := h1 k v hv
  exact ⟨a, b, c.soft hk hf⟩
theorem zeroBytes (w : World) : (zeroValue 43).run Tryz.prog w = .ok (.slice none 0 0) w := by kernel_rfl
/-- What a file's place in the map holds. -/
theorem FilesAt.get {w : World} {mf : Nat} {f : Int → List UInt8} {fp : Nat → Prop} (h : FilesAt w mf f fp) (k : Int) : ∃ v, BytesAt w v (f k) fp ∧ (Instr.lookup 58 (.map (some mf)) (.int .i64 k) false).run Tryz.prog w = .ok v w := by
  obtain ⟨h0, g, hm, h1, h2⟩ := h
  refine ⟨(g k).getD (.slice none 0 0), ?_, run_lookup_map Tryz.underlying58 Tryz.underlying3 (zeroBytes w) hm k⟩
  cases hk : g k with
  | none => rw [h2 k hk]; exact BytesAt.nil _ _
  | some v => exact (h1 k v hk).2.2
theorem FilesAt.put {w : World} {mf : Nat} {f : Int → List UInt8} {fp fp' : Nat → Prop} (h : FilesAt w mf f fp) (k : Int) (h0 : 0 ≤ k) (h64 : k < 64) (v : Value) (s : List UInt8) (hv : BytesAt w v s fp') (hf : ∀ b, fp b → fp' b) :
    ∃ w', (Instr.mapUpdate 58 (.map (some mf)) (.int .i64 k) v).run Tryz.prog w = .ok () w' ∧ FilesAt w' mf (setF f k s) fp' ∧ w.grownBy w' (some mf) := by
  obtain ⟨hfp, g, hm, h1, h2⟩ := h
  obtain ⟨w', hrun, hm', hg⟩ := run_mapUpdate_map (P := Tryz.prog) Tryz.underlying58 Tryz.underlying3 hm k v
  have hcells : ∀ (b : Nat) (cs : Array Value) (T : TypeId) (fz : Nat × Nat), w.heap[b]? = some (Obj.cells cs T fz) → w'.heap[b]? = some (Obj.cells cs T fz) := fun b cs T fz hb => by
    refine (hg.block b (Array.getElem?_eq_some_iff.1 hb).1 (fun e => ?_)).trans hb
    cases e
    obtain ⟨es, clk, hmb, _⟩ := hm
    rw [hmb] at hb
    cases hb
  refine ⟨w', hrun, ⟨hf _ hfp, upd g k v, hm', fun x u hu => ?_, fun x hx => ?_⟩, hg⟩
  · unfold upd at hu
    unfold setF
    split at hu
    · rename_i hxk
      simp at hu
      subst hu hxk
      rw [if_pos rfl]
      exact ⟨h0, h64, hv.kept' (fun b cs fz _ hb => hcells b cs _ fz hb) (fun _ h _ => h)⟩
    · rename_i hxk
      rw [if_neg hxk]
      obtain ⟨a, b, c⟩ := h1 x u hu
      exact ⟨a, b, c.kept' (fun b cs fz _ hb => hcells b cs _ fz hb) (fun b h _ => hf b h)⟩
  · unfold upd at hx
    unfold setF
    split at hx
    · simp at hx
    · rename_i hxk
      rw [if_neg hxk]
      exact h2 x hx
theorem keepD {w1 w2 : World} {X : Nat} {u v : Value} (hb : Bel w1 w2) (h : w1.cell? ⟨X, 0, none⟩ = some u ∧ w1.cell? ⟨X, 1, none⟩ = some v) : w2.cell? ⟨X, 0, none⟩ = some u ∧ w2.cell? ⟨X, 1, none⟩ = some v := ⟨hb.c h.1, hb.c h.2⟩
theorem keepG {w1 w2 : World} {X mf : Nat} {u v : Value} {f : Int → List UInt8} {fp : Nat → Prop} (hg : w1.grownBy w2 (some mf)) (hF : FilesAt w1 mf f fp) (h : w1.cell? ⟨X, 0, none⟩ = some u ∧ w1.cell? ⟨X, 1, none⟩ = some v) : w2.cell? ⟨X, 0, none⟩ = some u ∧ w2.cell? ⟨X, 1, none⟩ = some v := by
  have hne : some X ≠ some mf := fun e => by
    cases e
    obtain ⟨-, g, ⟨es, clk, hb, -⟩, -⟩ := hF
    have := h.1
    simp [World.cell?, hb] at this
  exact ⟨grown_c hg h.1 hne, grown_c hg h.2 hne⟩
theorem FilesAt.weaken {w : World} {mf : Nat} {f : Int → List UInt8} {fp fp' : Nat → Prop} (h : FilesAt w mf f fp) (hf : ∀ b, fp b → fp' b) : FilesAt w mf f fp' := h.kept (fun _ _ _ => rfl) hf
/-- What is left of files that were there, when something is done. -/
def GivesDone (mf : Nat) (f : Int → List UInt8) (x : Th) (fp : Nat → Prop) (w : World) (e : Ending) (w' : World) : Prop := e = .returned (.tuple #[]) ∧ FilesAt w' mf (doneF f x) (fun b => fp b ∨ w.heap.size ≤ b) ∧ w.grownBy w' (some mf)
set_option maxRecDepth 100000 in
set_option maxHeartbeats 400000 in
theorem done_any {w : World} {mf : Nat} {f : Int → List UInt8} {fp : Nat → Prop} {x : Th} {c0 c1 c2 c3 c4 : Value} (hF : FilesAt w mf f fp) (hx : ThingAt w [c0, c1, c2, c3, c4] x fp) (hl : (f x.file).length + x.bytes.length ≤ manyB) :
    Calls Tryz.prog 43 #[.map (some mf), .agg #[c0, c1, c2, c3, c4]] w (GivesDone mf f x fp w) := by
  obtain ⟨⟨hx0, hx64⟩, hx⟩ := hx
  obtain ⟨W, hW⟩ : ∃ W, W = (w.alloc (.cells #[c0, c1, c2, c3, c4] 93)).drew := ⟨_, rfl⟩
  have hbW : Bel w W := by rw [hW]; exact ((Bel.refl w).alloc _).drew
  have hFW := hF.kept (w' := W) (fun b _ hl => hbW.block b hl) (fun _ h => h)
  obtain ⟨v, hv, hlk⟩ := hFW.get x.file
  rcases hx with ⟨hcut, hmany, bx, u, hbx, hcs, hblk, hu⟩ | ⟨hcut, hbytes, hm0, hm1, bx, hbx, hcs, hblk⟩
  · simp at hcs
    obtain ⟨rfl, rfl, rfl, rfl, rfl⟩ := hcs
    have HC := Lib.hid (behindC_any bx v c2 (f x.file) x.bytes W hl (hbW.deferred hblk) (hu.bel hbW) hv)
    have HFW := Lib.hid hFW
    have HBW := Lib.hid hbW
    have HW := Lib.hid hW
    have HCUT := Lib.hid hcut
    have hS0 : W.cell? ⟨w.heap.size, 0, none⟩ = some (.int .i64 x.file) ∧ W.cell? ⟨w.heap.size, 1, none⟩ = some (.func (.func 62) #[] #[.pointer (some ⟨bx, 0, none⟩)]) := by
      rw [hW]; exact ⟨by go_simp, by go_simp⟩
    rw [hW] at hlk hS0
    clear hF hFW hl hblk hu hv hbW hW hcut hmany
    go_enter Tryz.func43, Tryz.ntmps43
    go_wp2
    go_region_held3 (fun w' => w'.cell? ⟨w.heap.size, 0, none⟩ = some (.int .i64 x.file) ∧ w'.cell? ⟨w.heap.size, 1, none⟩ = some (.func (.func 62) #[] #[.pointer (some ⟨bx, 0, none⟩)]))
      (first | exact hS0 | exact keepD (Bel.drew (Bel.refl _)) hS0 | exact keepD (by assumption) (by assumption) | exact keepG (by assumption) (by assumption) (by assumption))
      ((go_at_call 62; rw [← HW.out]; refine HC.out.mono ?_; rintro e w1 ⟨v', rfl, hv', hb1⟩; have hF1 := HFW.out.kept (w' := w1) (fun b _ hl => hb1.block b hl) (fun _ h => h); obtain ⟨w2, hrun, hF2, hg2⟩ := hF1.put x.file hx0 hx64 v' (f x.file ++ x.bytes) hv' (fun b h => .inl h); rw [HW.out] at hb1))
    go_end0
    have hg1 : w.grownBy w1 (some mf) := ((((Bel.refl w).alloc _).drew).then_ hb1).grownBy _
    refine ⟨rfl, ?_, grown_trans hg1 hg2⟩
    have hd : x.does (f x.file) = f x.file ++ x.bytes := by unfold Th.does; rw [HCUT.out]; rfl
    unfold doneF
    rw [hd]
    have hsz := HBW.out.size
    exact hF2.weaken (fun b h => h.elim .inl (fun h => .inr (by omega)))
  · simp at hcs
    obtain ⟨rfl, rfl, rfl, rfl, rfl⟩ := hcs
    subst hW
    have HC := Lib.hid (cutC_any bx x.many hm0 hm1 v (f x.file) ((w.alloc (.cells #[.int .i64 x.file, .func (.func 66) #[] #[.pointer (some ⟨bx, 0, none⟩)], .slice none 0 0, .int .i64 x.many, .bool true] 93)).drew) (hbW.deferred hblk) hv)
    have HFW := Lib.hid hFW
    have HBW := Lib.hid hbW
    have HCUT := Lib.hid hcut
    have hS0 : ((w.alloc (.cells #[.int .i64 x.file, .func (.func 66) #[] #[.pointer (some ⟨bx, 0, none⟩)], .slice none 0 0, .int .i64 x.many, .bool true] 93)).drew).cell? ⟨w.heap.size, 0, none⟩ = some (.int .i64 x.file) ∧ ((w.alloc (.cells #[.int .i64 x.file, .func (.func 66) #[] #[.pointer (some ⟨bx, 0, none⟩)], .slice none 0 0, .int .i64 x.many, .bool true] 93)).drew).cell? ⟨w.heap.size, 1, none⟩ = some (.func (.func 66) #[] #[.pointer (some ⟨bx, 0, none⟩)]) := by
      exact ⟨by go_simp, by go_simp⟩
    clear hF hFW hl hblk hv hbW hcut hbytes hm0 hm1
    go_enter Tryz.func43, Tryz.ntmps43
    go_wp2
    go_region_held3 (fun w' => w'.cell? ⟨w.heap.size, 0, none⟩ = some (.int .i64 x.file) ∧ w'.cell? ⟨w.heap.size, 1, none⟩ = some (.func (.func 66) #[] #[.pointer (some ⟨bx, 0, none⟩)]))
      (first | exact hS0 | exact keepD (Bel.drew (Bel.refl _)) hS0 | exact keepD (by assumption) (by assumption) | exact keepG (by assumption) (by assumption) (by assumption))
      ((go_at_call 66; refine HC.out.mono ?_; rintro e w1 ⟨v', rfl, hv', rfl⟩; have hb1 := Bel.refl ((w.alloc (.cells #[.int .i64 x.file, .func (.func 66) #[] #[.pointer (some ⟨bx, 0, none⟩)], .slice none 0 0, .int .i64 x.many, .bool true] 93)).drew); have hF1 := HFW.out.kept (w' := ((w.alloc (.cells #[.int .i64 x.file, .func (.func 66) #[] #[.pointer (some ⟨bx, 0, none⟩)], .slice none 0 0, .int .i64 x.many, .bool true] 93)).drew)) (fun b _ hl => hb1.block b hl) (fun _ h => h); obtain ⟨w2, hrun, hF2, hg2⟩ := hF1.put x.file hx0 hx64 v' ((f x.file).take x.many.toNat) hv' (fun b h => h); skip))
    go_end0
    have hg1 : w.grownBy ((w.alloc (.cells #[.int .i64 x.file, .func (.func 66) #[] #[.pointer (some ⟨bx, 0, none⟩)], .slice none 0 0, .int .i64 x.many, .bool true] 93)).drew) (some mf) := HBW.out.grownBy _
    refine ⟨rfl, ?_, grown_trans hg1 hg2⟩
    have hd : x.does (f x.file) = (f x.file).take x.many.toNat := by unfold Th.does; rw [HCUT.out]; rfl
    unfold doneF
    rw [hd]
    have hsz := HBW.out.size
    exact hF2.weaken (fun b h => .inl h)
end Go.Proofs.YtiajggmnfaidjaaGreatDoor
