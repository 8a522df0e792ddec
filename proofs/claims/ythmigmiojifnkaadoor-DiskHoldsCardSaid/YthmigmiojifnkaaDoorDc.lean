/-
  DiskHolds: any call but a crash; the plain law.
-/
import Derived.Test.YthmigmiojifnkaaDoorDb3
set_option linter.unusedVariables false
set_option linter.unusedSimpArgs false
set_option linter.unusedVariables false
set_option linter.unusedSimpArgs false
namespace Go.Proofs.YthmigmiojifnkaaDoor
open Go.RowKit

theorem act_any {w : World} {bd : Nat} {m : DM} {fp : Nat → Prop} {cs : Array Value} {mw : DM} (h : DiskIs w bd m fp) (hfit : Fit m) (hg : ErrType w) (hr : RDis w cs mw) (hrf : RFit mw) (hfew : mw.loose.length < 1000000) (what file n torn : Int) (A : Option Addr) (cap : Nat) (s : List UInt8) (hc : A = none → cap = 0) (hs : s.length ≤ 60) (hrd : Reads w w.heap.size 1 A s.length (s.map bv)) (hw : what ≠ 5) :
    Calls Tryd.prog 12 #[.pointer (some ⟨bd, 0, none⟩), .agg cs, .agg #[.int .i64 what, .int .i64 file, .int .i64 n, .int .i64 torn, .slice A s.length cap]] w (GivesAct (m.act what file n s) fp w) := by
  unfold DM.act
  by_cases h0 : what = 0
  · subst h0; rw [if_pos (.inl rfl)]; exact act_append0 h hfit hg hr hrf hfew file n torn A cap s hc hs hrd
  by_cases h1 : what = 1
  · subst h1; rw [if_pos (.inr (.inl rfl))]; exact act_append1 h hfit hg hr hrf hfew file n torn A cap s hc hs hrd
  by_cases h2 : what = 2
  · subst h2; rw [if_pos (.inr (.inr rfl))]; exact act_append2 h hfit hg hr hrf hfew file n torn A cap s hc hs hrd
  rw [if_neg (by omega)]
  by_cases h3 : what = 3
  · subst h3; rw [if_pos rfl]; exact act_cut h hfit hg hr hrf hfew file n torn A cap s hc hs hrd
  rw [if_neg h3]
  by_cases h4 : what = 4
  · subst h4; rw [if_pos rfl]; exact act_sync h hfit hr hrf file n torn A s.length cap
  rw [if_neg h4]
  exact act_copy h hfit hr what file n torn A s.length cap h0 h1 h2 h3 h4 hw
/-! The plain law. -/
/-- What a file had, call by call, since the sync: S k is what it has behind k things. -/
inductive Tr (S : Nat → List UInt8) : List (List UInt8) → Nat → Prop
  | base : Tr S [S 0] 0
  | stay {H : List (List UInt8)} {k : Nat} : Tr S H k → Tr S (H ++ [S k]) k
  | step {H : List (List UInt8)} {k : Nat} : Tr S H k → Tr S (H ++ [S (k + 1)]) (k + 1)
theorem Tr.congr {S S' : Nat → List UInt8} {H : List (List UInt8)} {n : Nat} (h : Tr S H n) : (∀ k, k ≤ n → S' k = S k) → Tr S' H n := by
  induction h with
  | base => intro e; rw [← e 0 (Nat.le_refl _)]; exact .base
  | stay h ih => intro e; rw [← e _ (Nat.le_refl _)]; exact .stay (ih e)
  | step h ih => intro e; rw [← e _ (Nat.le_refl _)]; exact .step (ih (fun k hk => e k (by omega)))
theorem Tr.last {S : Nat → List UInt8} {H : List (List UInt8)} {n : Nat} (h : Tr S H n) : 0 < H.length ∧ H[H.length - 1]? = some (S n) := by
  cases h with
  | base => exact ⟨by simp, rfl⟩
  | stay h => exact ⟨by simp, by simp⟩
  | step h => exact ⟨by simp, by simp⟩
theorem Tr.found {S : Nat → List UInt8} {H : List (List UInt8)} {n : Nat} (h : Tr S H n) : ∀ k, k ≤ n → ∃ j, H[j]? = some (S k) ∧ (k < n → H[j + 1]? = some (S (k + 1))) := by
  induction h with
  | base =>
    intro k hk
    have h0 : k = 0 := by omega
    subst h0
    exact ⟨0, rfl, fun h => absurd h (Nat.lt_irrefl 0)⟩
  | stay h ih =>
    intro k hk
    obtain ⟨j, h1, h2⟩ := ih k hk
    refine ⟨j, ?_, fun hlt => ?_⟩
    · rw [List.getElem?_append_left (List.getElem?_eq_some_iff.1 h1).1]; exact h1
    · have h3 := h2 hlt
      rw [List.getElem?_append_left (List.getElem?_eq_some_iff.1 h3).1]; exact h3
  | @step H m h ih =>
    intro k hk
    obtain ⟨hl, hlast⟩ := h.last
    by_cases hkm : k = m + 1
    · subst hkm
      exact ⟨H.length, by simp, fun h => by omega⟩
    · by_cases hkn : k = m
      · subst hkn
        refine ⟨H.length - 1, by rw [List.getElem?_append_left (by omega)]; exact hlast, fun _ => ?_⟩
        rw [show H.length - 1 + 1 = H.length by omega]
        simp
      · obtain ⟨j, h1, h2⟩ := ih k (by omega)
        refine ⟨j, ?_, fun hlt => ?_⟩
        · rw [List.getElem?_append_left (List.getElem?_eq_some_iff.1 h1).1]; exact h1
        · have h3 := h2 (by omega)
          rw [List.getElem?_append_left (List.getElem?_eq_some_iff.1 h3).1]; exact h3
/-- What the law asks of what a file has now, at one place. -/
def Fine (H : List (List UInt8)) (now : List UInt8) (i : Nat) : Prop := ∃ a b, H[i]? = some a ∧ H[min (i + 1) (H.length - 1)]? = some b ∧ (now = a ∨ now.length ≤ b.length ∧ a.length ≤ now.length ∧ b.take now.length = now ∧ now.take a.length = a)
theorem fine_eq {H : List (List UInt8)} {now : List UInt8} {i : Nat} (h : H[i]? = some now) : Fine H now i := by
  have hlt := (List.getElem?_eq_some_iff.1 h).1
  exact ⟨now, _, h, List.getElem?_eq_getElem (by omega), .inl rfl⟩
/-- Behind a crash the file has what it had at some time, and perhaps a first part of the next. -/
theorem crash_fine {m : DM} {H : List (List UInt8)} {file : Int} (h : Tr (fun k => m.upTo k file) H m.loose.length) (keep torn : Int) (hk0 : 0 ≤ keep) : ∃ i, i < H.length ∧ Fine H ((m.crash keep torn).files file) i := by
  have hc : (m.crash keep torn).files file = ((m.left keep torn).foldl doneF m.synced) file := congrFun (crash_left m keep torn hk0) file
  rw [hc]
  unfold DM.left
  rw [List.foldl_append]
  show ∃ i, i < H.length ∧ Fine H (List.foldl doneF (m.upTo keep.toNat) _ file) i
  have same : ∀ k, k ≤ m.loose.length → ∃ i, i < H.length ∧ Fine H (m.upTo k file) i := fun k hk => by
    obtain ⟨j, h1, _⟩ := h.found k hk
    exact ⟨j, (List.getElem?_eq_some_iff.1 h1).1, fine_eq h1⟩
  cases hx : m.loose[keep.toNat]? with
  | none =>
    have hge := List.getElem?_eq_none_iff.1 hx
    have e : m.upTo keep.toNat = m.upTo m.loose.length := by unfold DM.upTo; rw [List.take_of_length_le hge, List.take_of_length_le (Nat.le_refl _)]
    rw [e]
    exact same _ (Nat.le_refl _)
  | some x =>
    have hlt := (List.getElem?_eq_some_iff.1 hx).1
    cases hcu : x.cuts
    · simp [hcu]
      by_cases hf : file = x.file
      · have e1 : doneF (m.upTo keep.toNat) (⟨x.file, x.bytes.take torn.toNat, 0, false⟩ : Th) file = m.upTo keep.toNat file ++ x.bytes.take torn.toNat := by
          unfold doneF setF
          rw [if_pos hf, hf]
          rfl
        have e2 : m.upTo (keep.toNat + 1) file = m.upTo keep.toNat file ++ x.bytes := by
          rw [m.upTo_succ hx]
          unfold doneF setF
          rw [if_pos hf, hf]
          unfold Th.does
          rw [hcu]
          rfl
        rw [e1]
        obtain ⟨j, h1, h2⟩ := h.found keep.toNat (by omega)
        have h3 := h2 hlt
        have hj3 := (List.getElem?_eq_some_iff.1 h3).1
        refine ⟨j, (List.getElem?_eq_some_iff.1 h1).1, _, _, h1, by rw [Nat.min_eq_left (by omega)]; exact h3, .inr ⟨?_, ?_, ?_, ?_⟩⟩
        · show _ ≤ (m.upTo (keep.toNat + 1) file).length
          rw [e2, List.length_append, List.length_append, List.length_take]
          omega
        · rw [List.length_append]; omega
        · show (m.upTo (keep.toNat + 1) file).take _ = _
          rw [e2, List.length_append, List.take_append, List.take_of_length_le (by omega)]
          congr 1
          rw [List.length_take, show (m.upTo keep.toNat file).length + min torn.toNat x.bytes.length - (m.upTo keep.toNat file).length = min torn.toNat x.bytes.length by omega, List.take_eq_take_min]
          simp
        · exact List.take_left' rfl
      · have e1 : doneF (m.upTo keep.toNat) (⟨x.file, x.bytes.take torn.toNat, 0, false⟩ : Th) file = m.upTo keep.toNat file := by
          unfold doneF setF
          rw [if_neg hf]
        rw [e1]
        exact same _ (by omega)
    · simp [hcu]
      exact same _ (by omega)
theorem Tr.act {m : DM} {H : List (List UInt8)} {file : Int} (h : Tr (fun k => m.upTo k file) H m.loose.length) (hf : RFit m) (hn : m.loose.length < 1000000) (what fl n : Int) (s : List UInt8) :
    RFit (m.act what fl n s) ∧ (m.act what fl n s).loose.length ≤ m.loose.length + 1 ∧ (m.act what fl n s).room = m.room ∧ Tr (fun k => (m.act what fl n s).upTo k file) ((if what = 4 then [] else H) ++ [(m.act what fl n s).files file]) (m.act what fl n s).loose.length := by
  have more : ∀ (x : Th) (F : Int → List UInt8), RFit { m with files := F, loose := m.loose ++ [x] } → what ≠ 4 → Tr (fun k => ({ m with files := F, loose := m.loose ++ [x] } : DM).upTo k file) ((if what = 4 then [] else H) ++ [F file]) (m.loose ++ [x]).length := fun x F hF h4 => by
    rw [if_neg h4]
    have e : F file = ({ m with files := F, loose := m.loose ++ [x] } : DM).upTo (m.loose.length + 1) file := by
      have := hF.files
      have h2 : F = ({ m with files := F, loose := m.loose ++ [x] } : DM).upTo (m.loose ++ [x]).length := this
      rw [show (m.loose ++ [x]).length = m.loose.length + 1 by simp] at h2
      exact congrFun h2 file
    rw [e, show (m.loose ++ [x]).length = m.loose.length + 1 by simp]
    exact .step (h.congr fun k hk => by rw [upTo_more, if_pos hk])
  have stay : what ≠ 4 → Tr (fun k => m.upTo k file) ((if what = 4 then [] else H) ++ [m.files file]) m.loose.length := fun h4 => by
    rw [if_neg h4, hf.files]
    exact .stay h
  unfold DM.act
  by_cases h012 : what = 0 ∨ what = 1 ∨ what = 2
  · simp only [if_pos h012]
    have hfa := hf.append fl s hn
    revert hfa
    unfold DM.append
    split
    · intro _; exact ⟨hf, Nat.le_succ _, rfl, stay (by omega)⟩
    · split
      · intro _; exact ⟨hf, Nat.le_succ _, rfl, stay (by omega)⟩
      · intro hfa; exact ⟨hfa, by simp, rfl, more _ _ hfa (by omega)⟩
  · simp only [if_neg h012]
    by_cases h3 : what = 3
    · simp only [if_pos h3]
      have hfa := hf.cut fl n hn
      revert hfa
      unfold DM.cut
      split
      · intro _; exact ⟨hf, Nat.le_succ _, rfl, stay (by omega)⟩
      · split
        · intro _; exact ⟨hf, Nat.le_succ _, rfl, stay (by omega)⟩
        · intro hfa; exact ⟨hfa, by simp, rfl, more _ _ hfa (by omega)⟩
    · simp only [if_neg h3]
      by_cases h4 : what = 4
      · simp only [if_pos h4]
        refine ⟨hf.sync, by simp [DM.sync], rfl, ?_⟩
        show Tr (fun k => m.sync.upTo k file) [(fun k => m.sync.upTo k file) 0] 0
        exact .base
      · simp only [if_neg h4]
        refine ⟨hf, Nat.le_succ _, by first | rfl | trivial, ?_⟩
        have := stay h4
        rw [if_neg h4] at this
        exact this
end Go.Proofs.YthmigmiojifnkaaDoor
