/-
  The document's disk: Append, Cut.
-/
import Derived.Test.YtiajggmnfaidjaaGreatDoorRa
set_option linter.unusedVariables false
set_option linter.unusedSimpArgs false
set_option linter.unusedVariables false
set_option linter.unusedSimpArgs false
namespace Go.Proofs.YtiajggmnfaidjaaGreatDoor
open Go.RowKit

/-! What is asked holds on. -/
theorem sumTo_set (h : Int → Int) (a c : Int) : ∀ n : Nat, sumTo (fun k => if k = a then c else h k) n = sumTo h n + if 0 ≤ a ∧ a < n then c - h a else 0
  | 0 => by simp [sumTo]; omega
  | n + 1 => by
    rw [sumTo, sumTo, sumTo_set h a c n]
    by_cases ha : (n : Int) = a
    · subst ha
      rw [if_pos rfl, if_neg (by omega), if_pos (by omega)]
      omega
    · rw [if_neg ha]
      by_cases hb : 0 ≤ a ∧ a < (n : Int)
      · rw [if_pos hb, if_pos (by omega)]; omega
      · rw [if_neg hb, if_neg (by omega)]; omega
theorem tot_done (f : Int → List UInt8) (x : Th) (h0 : 0 ≤ x.file) (h64 : x.file < 64) : tot (doneF f x) = tot f + (((x.does (f x.file)).length : Int) - ((f x.file).length : Int)) := by
  have := sumTo_set (fun k => ((f k).length : Int)) x.file ((x.does (f x.file)).length : Int) 64
  rw [if_pos ⟨h0, h64⟩] at this
  have e : tot (doneF f x) = sumTo (fun k => if k = x.file then ((x.does (f x.file)).length : Int) else ((f k).length : Int)) 64 := sumTo_congr 64 fun k _ => by
    unfold doneF setF
    split <;> rfl
  rw [e, this]
  rfl
theorem upTo_more (m : DM) (x : Th) (F : Int → List UInt8) (k : Nat) : ({ m with files := F, loose := m.loose ++ [x] } : DM).upTo k = if k ≤ m.loose.length then m.upTo k else doneF (m.upTo m.loose.length) x := by
  unfold DM.upTo
  by_cases hk : k ≤ m.loose.length
  · rw [if_pos hk]
    show ((m.loose ++ [x]).take k).foldl doneF m.synced = _
    rw [List.take_append_of_le_length hk]
  · rw [if_neg hk]
    show ((m.loose ++ [x]).take k).foldl doneF m.synced = _
    rw [List.take_of_length_le (by simp; omega), List.foldl_append, List.take_of_length_le (Nat.le_refl _)]
    rfl
theorem RFit.more {m : DM} (h : RFit m) (x : Th) (hn : m.loose.length < 1000000) (hf0 : 0 ≤ x.file) (hf64 : x.file < 64) (hm : 0 ≤ x.many) (hb : x.bytes.length ≤ 16777216) (ht : tot (doneF m.files x) ≤ m.room) : RFit { m with files := doneF m.files x, loose := m.loose ++ [x] } := by
  refine ⟨h.lo, h.hi, by simp; omega, ?_, ?_, ?_, fun k => ?_, ?_⟩
  · intro y hy
    rcases List.mem_append.1 hy with hy | hy
    · exact h.file y hy
    · rw [List.mem_singleton.1 hy]; exact ⟨hf0, hf64⟩
  · intro y hy
    rcases List.mem_append.1 hy with hy | hy
    · exact h.many y hy
    · rw [List.mem_singleton.1 hy]; exact hm
  · intro y hy
    rcases List.mem_append.1 hy with hy | hy
    · exact h.bytes y hy
    · rw [List.mem_singleton.1 hy]; exact hb
  · rw [upTo_more]
    split
    · exact h.tots k
    · rw [← h.files]; exact ht
  · rw [upTo_more, if_neg (by simp), ← h.files]
theorem RFit.append {m : DM} (h : RFit m) (file : Int) (s : List UInt8) (hn : m.loose.length < 1000000) : RFit (m.append file s).1 := by
  unfold DM.append
  split
  · exact h
  · split
    · exact h
    · rename_i h1 h2
      have h0 := tot_nonneg m.files
      have hhi := h.hi
      refine h.more _ hn (by show 0 ≤ file; omega) (by show file < 64; omega) (Int.le_refl _) (by show s.length ≤ 16777216; omega) ?_
      rw [tot_done _ _ (by show 0 ≤ file; omega) (by show file < 64; omega)]
      show tot m.files + (((m.files file ++ s).length : Int) - ((m.files file).length : Int)) ≤ m.room
      rw [List.length_append]
      omega
theorem RFit.cut {m : DM} (h : RFit m) (file many : Int) (hn : m.loose.length < 1000000) : RFit (m.cut file many).1 := by
  unfold DM.cut
  split
  · exact h
  · split
    · exact h
    · rename_i h1 h2
      refine h.more _ hn (by show 0 ≤ file; omega) (by show file < 64; omega) (by show 0 ≤ many; omega) (by simp) ?_
      rw [tot_done _ _ (by show 0 ≤ file; omega) (by show file < 64; omega)]
      have := h.fit.files
      show tot m.files + (((((m.files file).take many.toNat).length : Nat) : Int) - _) ≤ _
      rw [List.length_take]
      show _ + (_ - ((m.files file).length : Int)) ≤ _
      omega
theorem RFit.sync {m : DM} (h : RFit m) : RFit m.sync := by
  have hu : ∀ k, m.sync.upTo k = m.files := fun k => by unfold DM.upTo; simp [DM.sync]
  refine ⟨h.lo, h.hi, by simp [DM.sync], by simp [DM.sync], by simp [DM.sync], by simp [DM.sync], fun k => ?_, (hu _).symm⟩
  rw [hu]
  exact h.fit.files
theorem crashTo_upTo (m : DM) (keep torn : Int) : ∀ k : Nat, k ≤ m.loose.length → (k : Int) ≤ keep → crashTo m keep torn k = m.upTo k
  | 0, _, _ => by simp [crashTo, DM.upTo]
  | k + 1, hk, hke => by
    obtain ⟨x, hx⟩ : ∃ x, m.loose[k]? = some x := ⟨_, List.getElem?_eq_getElem (by omega)⟩
    rw [crashTo_succ hx, crashTo_upTo m keep torn k (by omega) (by omega), m.upTo_succ hx]
    unfold crashF
    rw [if_pos (by omega)]
theorem crashTo_stay (m : DM) (keep torn : Int) (hk0 : 0 ≤ keep) : ∀ d : Nat, keep.toNat + 1 + d ≤ m.loose.length → crashTo m keep torn (keep.toNat + 1 + d) = crashTo m keep torn (keep.toNat + 1)
  | 0, _ => rfl
  | d + 1, h => by
    obtain ⟨x, hx⟩ : ∃ x, m.loose[keep.toNat + 1 + d]? = some x := ⟨_, List.getElem?_eq_getElem (by omega)⟩
    rw [show keep.toNat + 1 + (d + 1) = (keep.toNat + 1 + d) + 1 by omega, crashTo_succ hx, crashTo_stay m keep torn hk0 d (by omega)]
    unfold crashF
    rw [if_neg (by omega), if_neg (by omega)]
/-- What a crash leaves: the first things, and perhaps a first part of the next. -/
def DM.left (m : DM) (keep torn : Int) : List Th :=
  m.loose.take keep.toNat ++ match m.loose[keep.toNat]? with
    | some x => if x.cuts then [] else [⟨x.file, x.bytes.take torn.toNat, 0, false⟩]
    | none => []
theorem crash_left (m : DM) (keep torn : Int) (hk0 : 0 ≤ keep) : crashTo m keep torn m.loose.length = (m.left keep torn).foldl doneF m.synced := by
  unfold DM.left
  rw [List.foldl_append]
  by_cases hk : keep.toNat < m.loose.length
  · obtain ⟨x, hx⟩ : ∃ x, m.loose[keep.toNat]? = some x := ⟨_, List.getElem?_eq_getElem hk⟩
    have e : m.loose.length = keep.toNat + 1 + (m.loose.length - keep.toNat - 1) := by omega
    rw [e, crashTo_stay m keep torn hk0 _ (by omega), crashTo_succ hx, crashTo_upTo m keep torn keep.toNat (by omega) (by omega), hx]
    unfold crashF
    rw [if_neg (by omega)]
    cases hc : x.cuts
    · rw [if_pos ⟨by omega, rfl⟩]
      simp [hc]
      rfl
    · rw [if_neg (fun h => by cases h.2)]
      simp [hc]
      rfl
  · rw [List.getElem?_eq_none (by omega), crashTo_upTo m keep torn _ (Nat.le_refl _) (by omega)]
    simp [DM.upTo]
    rw [List.take_of_length_le (by omega)]
theorem RFit.crash {m : DM} (h : RFit m) (keep torn : Int) (hk0 : 0 ≤ keep) : RFit (m.crash keep torn) := by
  have hu : ∀ k, (m.crash keep torn).upTo k = crashTo m keep torn m.loose.length := fun k => by unfold DM.upTo; simp [DM.crash, DM.sync]
  refine ⟨h.lo, h.hi, by simp [DM.crash, DM.sync], by simp [DM.crash, DM.sync], by simp [DM.crash, DM.sync], by simp [DM.crash, DM.sync], fun k => ?_, (hu _).symm⟩
  rw [hu]
  show _ ≤ m.room
  rw [crash_left m keep torn hk0]
  unfold DM.left
  rw [List.foldl_append]
  show tot (List.foldl doneF (m.upTo keep.toNat) _) ≤ _
  have h1 := h.tots keep.toNat
  cases hx : m.loose[keep.toNat]? with
  | none => exact h1
  | some x =>
    have hmem := List.mem_of_getElem? hx
    have hfile := h.file x hmem
    have h2 := h.tots (keep.toNat + 1)
    rw [m.upTo_succ hx, tot_done _ _ hfile.1 hfile.2] at h2
    cases hc : x.cuts
    · simp [hc]
      refine Int.le_trans (Int.le_of_eq (tot_done (m.upTo keep.toNat) (⟨x.file, x.bytes.take torn.toNat, 0, false⟩ : Th) hfile.1 hfile.2)) ?_
      have e1 : x.does (m.upTo keep.toNat x.file) = m.upTo keep.toNat x.file ++ x.bytes := by unfold Th.does; rw [hc]; rfl
      have e2 : (⟨x.file, x.bytes.take torn.toNat, 0, false⟩ : Th).does (m.upTo keep.toNat x.file) = m.upTo keep.toNat x.file ++ x.bytes.take torn.toNat := rfl
      rw [e1, List.length_append] at h2
      show tot (m.upTo keep.toNat) + ((((⟨x.file, x.bytes.take torn.toNat, 0, false⟩ : Th).does (m.upTo keep.toNat x.file)).length : Int) - ((m.upTo keep.toNat x.file).length : Int)) ≤ _
      rw [e2, List.length_append, List.length_take]
      omega
    · simp [hc]
      exact h1
theorem RFit.new (room : Int) (h1 : 1 ≤ room) (h2 : room ≤ 16777216) : RFit (DM.new room) := by
  have hu : ∀ k, (DM.new room).upTo k = fun _ => [] := fun k => by unfold DM.upTo; simp [DM.new]
  have ht : tot (fun _ => [] : Int → List UInt8) = 0 := by
    have : tot (fun _ => [] : Int → List UInt8) = sumTo (fun _ => 0) 64 := sumTo_congr 64 fun k _ => rfl
    rw [this, sumTo_zero]
  exact ⟨by show 0 < room; omega, h2, by simp [DM.new], by simp [DM.new], by simp [DM.new], by simp [DM.new], fun k => by rw [hu, ht]; show 0 ≤ room; omega, (hu _).symm⟩
end Go.Proofs.YtiajggmnfaidjaaGreatDoor
