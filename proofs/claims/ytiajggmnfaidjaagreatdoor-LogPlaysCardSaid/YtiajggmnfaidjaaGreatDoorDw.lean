/-
  The chapter's rows over a disk: the law's works.
-/
import Derived.Test.YtiajggmnfaidjaaGreatDoorDv
import Derived.Lib.SlBytesConst
set_option linter.unusedVariables false
set_option linter.unusedSimpArgs false
set_option linter.unusedVariables false
set_option linter.unusedSimpArgs false
namespace Go.Proofs.YtiajggmnfaidjaaGreatDoor
open Go.RowKit

/-- A call on a disk of the law's own: what it hands back; all else of old lies as it lay. -/
def GivesOwn (w : World) (bd : Nat) (m' : DM) (r : Int) (e : Ending) (w' : World) : Prop := e = .returned (.int .i64 r) ∧ ∃ fp', DiskIs w' bd m' fp' ∧ (∀ b, fp' b → w.heap.size ≤ b) ∧ Bel w w'
theorem GivesOp.own {w W W1 : World} {bd : Nat} {m' : DM} {r : Int} {fp : Nat → Prop} {e : Ending} (h : GivesOp bd m' r fp W e W1) (hB : Bel w W) (hf : ∀ b, fp b → w.heap.size ≤ b) : GivesOwn w bd m' r e W1 := by
  obtain ⟨he, fp', hD, hO⟩ := h
  exact ⟨he, fp', hD, fun b hb => (hO.sub b hb).elim (hf b) (fun h => Nat.le_trans hB.size h), hB.trans (hO.below hB.size hf)⟩
theorem lit_reads (W : World) (s : List UInt8) : Reads (W.alloc (.cells (s.map bv).toArray 5 (s.length, s.length + 1))) (W.alloc (.cells (s.map bv).toArray 5 (s.length, s.length + 1))).heap.size 1 (some ⟨W.heap.size, 0, none⟩) s.length (s.map bv) := by
  refine ⟨by simp, fun _ => ⟨_, rfl, by simp, fun j u hu => ?_⟩⟩
  have hb := World.alloc_heap_new W (.cells (s.map bv).toArray 5 (s.length, s.length + 1))
  have e : (Addr.add ⟨W.heap.size, 0, none⟩ j) = ⟨W.heap.size, j, none⟩ := by unfold Addr.add; split <;> simp_all
  rw [e]
  simp only [World.cell?, hb]
  simpa using hu
theorem pair_eq {α β : Type} {p : α × β} {a : α} {b : β} (h1 : p.1 = a) (h2 : p.2 = b) : p = (a, b) := by subst h1 h2; rfl
theorem lit_append {w W : World} {bd : Nat} {m m' : DM} {k : Int} {fp : Nat → Prop} (file : Int) (s : List UInt8) (hs : s.length ≤ 100) (h : DiskIs W bd m fp) (hfit : Fit m) (hg : ErrType W) (hB : Bel w W) (hf : ∀ b, fp b → w.heap.size ≤ b) (hm : m.append file s = (m', k)) :
    Calls Tryz.prog 58 #[.pointer (some ⟨bd, 0, none⟩), .int .i64 file, .slice (some ⟨W.heap.size, 0, none⟩) s.length s.length] (W.alloc (.cells (s.map bv).toArray 5 (s.length, s.length + 1))) (GivesOwn w bd m' k) := by
  have hb : Bel W (W.alloc (.cells (s.map bv).toArray 5 (s.length, s.length + 1))) := (Bel.refl W).alloc _
  have := append_any (h.bel hb) hfit (hg.bel hb) file (some ⟨W.heap.size, 0, none⟩) s.length s.length s rfl (fun e => by cases e) (by omega) (lit_reads W s)
  rw [hm] at this
  exact this.mono fun e w' h => h.own (hB.then_ hb) hf
end Go.Proofs.YtiajggmnfaidjaaGreatDoor
