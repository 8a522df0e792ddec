/-
  LogRecords: its walk.
-/
import Derived.Test.YthmigmiojifnkaaDoorRf
import Derived.Test.YthmigmiojifnkaaDoorLn
import Derived.Test.YthmigmiojifnkaaDoorLx
set_option linter.unusedVariables false
set_option linter.unusedSimpArgs false
set_option linter.unusedVariables false
set_option linter.unusedSimpArgs false
namespace Go.Proofs.YthmigmiojifnkaaDoor
open Go.RowKit

/-- A log of the law's own, on file 0. -/
def OwnF (w W : World) (bl bd : Nat) (m : DM) (en : Int) : Prop := ∃ tn fd, LogIs W bl bd m 0 en tn fd ∧ w.heap.size ≤ bl ∧ (∀ b, fd b → w.heap.size ≤ b) ∧ Bel w W
theorem OwnF.old {w W : World} {bl bd : Nat} {m : DM} {en : Int} (h : OwnF w W bl bd m en) : Bel w W := by
  obtain ⟨tn, fd, h1, h2, h3, h4⟩ := h
  exact h4
theorem OwnF.bel {w W W1 : World} {bl bd : Nat} {m : DM} {en : Int} (h : OwnF w W bl bd m en) (hb : Bel W W1) : OwnF w W1 bl bd m en := by
  obtain ⟨tn, fd, h1, h2, h3, h4⟩ := h
  exact ⟨tn, fd, h1.bel hb, h2, h3, h4.then_ hb⟩
def big : DM := DM.new 100000
theorem big_tot : tot big.files = 0 := by
  have : tot big.files = sumTo (fun _ => 0) 64 := sumTo_congr 64 fun k _ => rfl
  rw [this, sumTo_zero]
theorem big_fit : Fit big := ⟨by decide, by decide, by rw [big_tot]; decide, by decide⟩
theorem big_ok (s : List UInt8) (hs : s.length ≤ 60000) : (big.append 0 (recN s)).2 = 0 := by
  unfold DM.append
  rw [if_neg (by decide), if_neg (by rw [big_tot, recN_length, show big.room = 100000 from rfl]; omega)]
theorem f_open {w W : World} {bd : Nat} {fp : Nat → Prop} (h : DiskIs W bd big fp) (hg : ErrType W) (hB : Bel w W) (hf : ∀ b, fp b → w.heap.size ≤ b) :
    Calls Tryd.prog 20 #[.pointer (some ⟨bd, 0, none⟩), .int .i64 0] W fun e w' => ∃ bl, e = .returned (.tuple #[.pointer (some ⟨bl, 0, none⟩), .int .i64 0]) ∧ OwnF w w' bl bd big 0 :=
  (lopen_any h big_fit hg 0 (by decide) (by decide) [] [] (by simp) rfl rfl).mono fun e w' h => by
    obtain ⟨bl, fd', he, hbl, hl, hO⟩ := h
    have hop : big.opened 0 (recsN []).length = big := by unfold DM.opened; exact if_pos rfl
    rw [hop] at hl
    exact ⟨bl, he, _, fd', hl, Nat.le_trans hB.size hbl, fun b hb => (hO.sub b (.inl hb)).elim (hf b) (fun h => Nat.le_trans hB.size h), hB.trans (hO.below hB.size hf)⟩
theorem f_app {w W : World} {bl bd : Nat} (h : OwnF w W bl bd big 0) (hg : ErrType w) (s : List UInt8) (A : Option Addr) (cap : Nat) (hs : s.length ≤ 60000) (hr : Reads W W.heap.size 1 A s.length (s.map bv)) :
    Calls Tryd.prog 21 #[.pointer (some ⟨bl, 0, none⟩), .slice A s.length cap] W fun e w' => e = .returned (.tuple #[.int .i64 0, .int .i64 0]) ∧ Bel w w' := by
  obtain ⟨tn, fd, h1, h2, h3, h4⟩ := h
  refine (lAppend_ok h1 big_fit (hg.bel h4) (by omega) (by omega) s A cap hs hr (big_ok s hs)).mono fun e w' h => ?_
  obtain ⟨he, fd', hl, hO⟩ := h
  exact ⟨he, h4.trans (hO.below h4.size (fun b hb => hb.elim (h3 b) (fun h => h ▸ h2)))⟩
theorem f_long {w W : World} {bl bd : Nat} (h : OwnF w W bl bd big 0) (hg : ErrType w) (s : List UInt8) (A : Option Addr) (cap : Nat) (hs : 60000 < s.length) :
    Calls Tryd.prog 21 #[.pointer (some ⟨bl, 0, none⟩), .slice A s.length cap] W fun e w' => e = .returned (.tuple #[.int .i64 0, .int .i64 3]) ∧ OwnF w w' bl bd big 0 := by
  obtain ⟨tn, fd, h1, h2, h3, h4⟩ := h
  exact (lAppend_long h1 (hg.bel h4) s A cap hs).mono fun e w' ⟨he, hb⟩ => ⟨he, tn, fd, h1.bel hb, h2, h3, h4.then_ hb⟩
theorem f_end {w W : World} {bl bd : Nat} {m : DM} {en : Int} (h : OwnF w W bl bd m en) : Calls Tryd.prog 23 #[.pointer (some ⟨bl, 0, none⟩)] W fun e w' => e = .returned (.int .i64 en) ∧ W = w' := by
  obtain ⟨tn, fd, h1, _⟩ := h
  exact lend_any h1
end Go.Proofs.YthmigmiojifnkaaDoor
