/-
  The chapter's rows over a log, as a plain reckoning; what each call of them hands back.
-/
import Derived.Test.YtiajggmnfaidjaaGreatDoorLe
import Derived.Test.YtiajggmnfaidjaaGreatDoorDw
set_option linter.unusedVariables false
set_option linter.unusedSimpArgs false
set_option linter.unusedVariables false
set_option linter.unusedSimpArgs false
namespace Go.Proofs.YtiajggmnfaidjaaGreatDoor
open Go.RowKit

theorem conv_reads {w : World} {B : Nat} {A : Option Addr} {s : List UInt8} (cap : Nat) (h : Reads w B 1 A s.length (s.map bv)) : (convert 43 9 (.slice A s.length cap)).run Tryz.prog w = .ok (strV s) w := by
  cases A with
  | none =>
    have : s = [] := by
      cases s with
      | nil => rfl
      | cons c s => obtain ⟨ad, e, _⟩ := h.2 (by simp); cases e
    subst this
    exact run_convert_bytes_nil (P := Tryz.prog) w 43 5 Tryz.underlying43 Tryz.underlying5 0 cap 9 Tryz.underlying9
  | some a =>
    have hl : (loadCells a s.length).run Tryz.prog w = .ok ((s.map fun c => (c.toNat : Int)).map (Value.int .u8)).toArray w := by
      have := run_loadCells_list (P := Tryz.prog) w a (s.map bv) (fun j v hj => by
        have hjl : j < s.length := by have := (List.getElem?_eq_some_iff.1 hj).1; simpa using this
        obtain ⟨ad, u, e, _, hu, hc⟩ := h.at_ hjl
        cases e
        rw [hj] at hu
        cases hu
        exact hc)
      rw [List.length_map] at this
      rw [this, List.map_map]
      rfl
    rw [show strV s = .string (strOfNums (s.map fun c => (c.toNat : Int))) by rw [strOf_bytes]; rfl, run_convert_bytes_string w 43 9 5 _ s.length cap Tryz.underlying43 Tryz.underlying5 Tryz.underlying9, run_bytesToString w _ s.length cap _ hl, foldl_push_bytes]
    simp [strOfNums, ByteArray.empty, ByteArray.emptyWithCapacity]
    rfl
theorem num10_any (k : Int) (w : World) : Calls Tryz.prog 8 #[.int .i64 k] w fun e w' => e = .returned (.int .i64 k) ∧ w = w' := by
  go_enter Tryz.func8, Tryz.ntmps8
  go_wp2
  go_ret
  exact ⟨rfl, rfl⟩
def nine : List UInt8 := [49, 50, 51, 52, 53, 54, 55, 56, 57]
def lab : List UInt8 := [97, 98]
def lc : List UInt8 := [99]
def lk0 : DM := DM.new 1000
def lk1 : DM := (lk0.append 3 (recN lab)).1
def lk2 : DM := (lk1.append 3 (recN [])).1
def lk3 : DM := lk2.sync
def lk4 : DM := (lk3.append 3 (recN lc)).1
def lk5 : DM := lk4.crash 0 4
def lk6 : DM := lk5.opened 3 18
theorem lk_nine : (recN nine).take 9 = [0, 0, 0, 9, 227, 6, 146, 131, 49] := by decide +kernel
theorem lk_1 : (lk0.append 3 (recN lab)).2 = 0 := by decide +kernel
theorem lk_2 : (lk1.append 3 (recN [])).2 = 0 := by decide +kernel
theorem lk_4 : (lk3.append 3 (recN lc)).2 = 0 := by decide +kernel
theorem lk_f2 : lk2.files 3 = recsN [lab, []] ++ [] := by decide +kernel
theorem lk_f5 : lk5.files 3 = recsN [lab, []] ++ (recN lc).take 4 := by decide +kernel
theorem lk_r : (recsN [lab, []]).length = 18 := by decide +kernel
theorem lk_t : firstL ((recN lc).take 4) = none := by decide +kernel
theorem lk_tl : ((recN lc).take 4).length = 4 := by decide +kernel
theorem lfit0 : Fit lk0 := fit_of (by decide +kernel)
theorem lfit1 : Fit lk1 := fit_of (by decide +kernel)
theorem lfit2 : Fit lk2 := fit_of (by decide +kernel)
theorem lfit3 : Fit lk3 := fit_of (by decide +kernel)
theorem lfit4 : Fit lk4 := fit_of (by decide +kernel)
theorem lfit5 : Fit lk5 := fit_of (by decide +kernel)
theorem lk4_loose : lk4.loose = [⟨3, recN lc, 0, false⟩] := by
  have : ¬ lk3.room - tot lk3.files < (recN lc).length := by decide +kernel
  have e : lk4 = (lk3.append 3 (recN lc)).1 := by delta lk4; exact Eq.refl _
  rw [e]; unfold DM.append; rw [if_neg (by decide), if_neg this]; exact Eq.refl _
/-- A log of the law's own. -/
def OwnL (w W : World) (bl bd : Nat) (m : DM) (en tn : Int) : Prop := ∃ fd, LogIs W bl bd m 3 en tn fd ∧ w.heap.size ≤ bl ∧ (∀ b, fd b → w.heap.size ≤ b) ∧ Bel w W
theorem OwnL.bel {w W W1 : World} {bl bd : Nat} {m : DM} {en tn : Int} (h : OwnL w W bl bd m en tn) (hb : Bel W W1) : OwnL w W1 bl bd m en tn := by
  obtain ⟨fd, h1, h2, h3, h4⟩ := h
  exact ⟨fd, h1.bel hb, h2, h3, h4.then_ hb⟩
theorem OwnL.old {w W : World} {bl bd : Nat} {m : DM} {en tn : Int} (h : OwnL w W bl bd m en tn) : Bel w W := by
  obtain ⟨fd, h1, h2, h3, h4⟩ := h
  exact h4
theorem OwnL.log {w W W1 : World} {bl bd : Nat} {m' : DM} {en' tn : Int} {fd : Nat → Prop} {v : Value} {e : Ending} (h : GivesLog bl bd m' 3 en' tn fd v W e W1) (hbl : w.heap.size ≤ bl) (hfd : ∀ b, fd b → w.heap.size ≤ b) (hB : Bel w W) : e = .returned v ∧ OwnL w W1 bl bd m' en' tn := by
  obtain ⟨he, fd', hl, hO⟩ := h
  refine ⟨he, fd', hl, hbl, fun b hb => (hO.sub b (.inl hb)).elim (fun h => h.elim (hfd b) (fun h => h ▸ hbl)) (fun h => Nat.le_trans hB.size h), hB.trans (hO.below hB.size (fun b hb => hb.elim (hfd b) (fun h => h ▸ hbl)))⟩
theorem OwnL.op {w W W1 : World} {bl bd : Nat} {m m' : DM} {en tn : Int} {fd : Nat → Prop} {r : Int} {e : Ending} (hl : LogIs W bl bd m 3 en tn fd) (h : GivesOp bd m' r fd W e W1) (hbl : w.heap.size ≤ bl) (hfd : ∀ b, fd b → w.heap.size ≤ b) (hB : Bel w W) : e = .returned (.int .i64 r) ∧ OwnL w W1 bl bd m' en tn := by
  obtain ⟨he, fp', hD, hO⟩ := h
  refine ⟨he, _, hl.op hD hO, hbl, fun b hb => (hO.sub b hb.1).elim (hfd b) (fun h => Nat.le_trans hB.size h), hB.trans (hO.below hB.size hfd)⟩
theorem lw_record {W : World} (s : List UInt8) (hs : s.length ≤ 60000) : Calls Tryz.prog 13 #[.slice (some ⟨W.heap.size, 0, none⟩) s.length s.length] (W.alloc (.cells (s.map bv).toArray 5 (s.length, s.length + 1))) (GivesRec s (W.alloc (.cells (s.map bv).toArray 5 (s.length, s.length + 1)))) :=
  record_any s _ _ hs _ (lit_reads W s)
theorem lw_rec {W : World} : Calls Tryz.prog 13 #[.slice (some ⟨W.heap.size, 0, none⟩) 9 9] (W.alloc (.cells #[.int .u8 49, .int .u8 50, .int .u8 51, .int .u8 52, .int .u8 53, .int .u8 54, .int .u8 55, .int .u8 56, .int .u8 57] 5 (9, 10))) fun e w' => ∃ b c, e = .returned (.tuple #[.slice (some ⟨b, 0, none⟩) 17 c, .int .i64 0]) ∧ 17 ≤ c ∧ Reads w' w'.heap.size 1 (some ⟨b, 0, none⟩) 17 ((recN nine).map bv) ∧ Bel W w' :=
  (lw_record (W := W) nine (by decide)).mono fun e w' h => by
    obtain ⟨A, c, rfl, hown, hb⟩ := h
    have hr := Reads.of_own hown
    obtain ⟨g, cp, hv, _⟩ := hown.form (by decide)
    cases hv
    refine ⟨_, _, rfl, ?_, hr, ((Bel.refl W).alloc _).then_ hb⟩
    rcases hown.2 with h2 | ⟨g, cap, cur, hv, _, hh, h3, h4, _⟩
    · exact absurd h2.2 (by decide)
    · cases hv
      exact h3
theorem lw_conv {W : World} {b c : Nat} (h : Reads W W.heap.size 1 (some ⟨b, 0, none⟩) 17 ((recN nine).map bv)) : (convert 43 9 (.slice (some ⟨b, 0, none⟩) 9 c)).run Tryz.prog W = .ok (.string ⟨#[0, 0, 0, 9, 227, 6, 146, 131, 49]⟩) W := by
  have h9 : Reads W W.heap.size 1 (some ⟨b, 0, none⟩) 9 (((recN nine).take 9).map bv) := by
    obtain ⟨h1, h2⟩ := h
    obtain ⟨ad, e, hb, hc⟩ := h2 (by decide)
    refine ⟨by simp [recN_length, nine], fun _ => ⟨ad, e, hb, fun j u hu => hc j u ?_⟩⟩
    rw [List.map_take] at hu
    have := (List.getElem?_eq_some_iff.1 hu).1
    rw [List.length_take] at this
    rw [List.getElem?_take, if_pos (by omega)] at hu
    exact hu
  rw [lk_nine] at h9
  exact conv_reads (s := [0, 0, 0, 9, 227, 6, 146, 131, 49]) c h9
theorem lw_open0 {w W : World} {bd : Nat} {fp : Nat → Prop} (h : DiskIs W bd lk0 fp) (hg : ErrType W) (hB : Bel w W) (hf : ∀ b, fp b → w.heap.size ≤ b) :
    Calls Tryz.prog 7 #[.pointer (some ⟨bd, 0, none⟩), .int .i64 3] W fun e w' => ∃ bl, e = .returned (.tuple #[.pointer (some ⟨bl, 0, none⟩), .int .i64 0]) ∧ OwnL w w' bl bd lk0 0 0 :=
  (lopen_any h lfit0 hg 3 (by decide) (by decide) [] [] (by simp) rfl rfl).mono fun e w' h => by
    obtain ⟨bl, fd', he, hbl, hl, hO⟩ := h
    have hop : lk0.opened 3 (recsN []).length = lk0 := by unfold DM.opened; exact if_pos rfl
    rw [hop] at hl
    exact ⟨bl, he, fd', hl, Nat.le_trans hB.size hbl, fun b hb => (hO.sub b (.inl hb)).elim (hf b) (fun h => Nat.le_trans hB.size h), hB.trans (hO.below hB.size hf)⟩
theorem lw_ap {w W : World} {bl bd : Nat} {m m' : DM} {en en' : Int} (s : List UInt8) (A : Option Addr) (cap : Nat) (hs : s.length ≤ 100) (h : OwnL w W bl bd m en 0) (hfit : Fit m) (hg : ErrType w) (he0 : 0 ≤ en) (he : en ≤ 1000000000) (hr : Reads W W.heap.size 1 A s.length (s.map bv)) (hok : (m.append 3 (recN s)).2 = 0)
    (hm : (m.append 3 (recN s)).1 = m') (hen : en' = en + (s.length + 8 : Nat)) :
    Calls Tryz.prog 14 #[.pointer (some ⟨bl, 0, none⟩), .slice A s.length cap] W fun e w' => e = .returned (.tuple #[.int .i64 en, .int .i64 0]) ∧ OwnL w w' bl bd m' en' 0 := by
  obtain ⟨fd, h1, h2, h3, h4⟩ := h
  have := lAppend_ok h1 hfit (hg.bel h4) he0 he s A cap (by omega) hr hok
  rw [hm, ← hen] at this
  exact this.mono fun e w' h => OwnL.log h h2 h3 h4
theorem lk1_def : (lk0.append 3 (recN lab)).1 = lk1 := by delta lk1; exact Eq.refl _
theorem lk2_def : (lk1.append 3 (recN [])).1 = lk2 := by delta lk2; exact Eq.refl _
theorem lk4_def : (lk3.append 3 (recN lc)).1 = lk4 := by delta lk4; exact Eq.refl _
theorem lw_apA {w W : World} {bl bd : Nat} (h : OwnL w W bl bd lk0 0 0) (hg : ErrType w) :
    Calls Tryz.prog 14 #[.pointer (some ⟨bl, 0, none⟩), .slice (some ⟨W.heap.size, 0, none⟩) 2 2] (W.alloc (.cells #[.int .u8 97, .int .u8 98] 5 (2, 3))) fun e w' => e = .returned (.tuple #[.int .i64 0, .int .i64 0]) ∧ OwnL w w' bl bd lk1 10 0 :=
  lw_ap lab _ _ (by decide) (h.bel ((Bel.refl W).alloc _)) lfit0 hg (by decide) (by decide) (lit_reads W lab) lk_1 lk1_def rfl
theorem lw_apB {w W : World} {bl bd : Nat} (h : OwnL w W bl bd lk1 10 0) (hg : ErrType w) :
    Calls Tryz.prog 14 #[.pointer (some ⟨bl, 0, none⟩), .slice none 0 0] W fun e w' => e = .returned (.tuple #[.int .i64 10, .int .i64 0]) ∧ OwnL w w' bl bd lk2 18 0 :=
  lw_ap [] none 0 (by decide) h lfit1 hg (by decide) (by decide) Reads.none_ lk_2 lk2_def rfl
theorem lw_apC {w W : World} {bl bd : Nat} (h : OwnL w W bl bd lk3 18 0) (hg : ErrType w) :
    Calls Tryz.prog 14 #[.pointer (some ⟨bl, 0, none⟩), .slice (some ⟨W.heap.size, 0, none⟩) 1 1] (W.alloc (.cells #[.int .u8 99] 5 (1, 2))) fun e w' => e = .returned (.tuple #[.int .i64 18, .int .i64 0]) ∧ OwnL w w' bl bd lk4 27 0 :=
  lw_ap lc _ _ (by decide) (h.bel ((Bel.refl W).alloc _)) lfit3 hg (by decide) (by decide) (lit_reads W lc) lk_4 lk4_def rfl
theorem lw_read {w W : World} {bl bd : Nat} (h : OwnL w W bl bd lk2 18 0) (at_ : Int) (r : Option (Nat × List UInt8)) (hr : match r with | some p => p ∈ rowsFrom 0 [lab, []] ∧ (p.1 : Int) = at_ | none => ∀ q ∈ rowsFrom 0 [lab, []], (q.1 : Int) ≠ at_) :
    Calls Tryz.prog 15 #[.pointer (some ⟨bl, 0, none⟩), .int .i64 at_] W (GivesLRead r W) := by
  obtain ⟨fd, h1, h2, h3, h4⟩ := h
  exact lRead_any h1 lfit2 (by decide) (by decide) [lab, []] [] (by decide) rfl lk_f2 at_ r hr
theorem lw_r0 {w W : World} {bl bd : Nat} (h : OwnL w W bl bd lk2 18 0) : Calls Tryz.prog 15 #[.pointer (some ⟨bl, 0, none⟩), .int .i64 0] W fun e w' => ∃ A, e = .returned (.tuple #[.slice A 2 2, .int .i64 10, .int .i64 0]) ∧ BytesAt w' (.slice A 2 2) lab (fun b => W.heap.size ≤ b) ∧ Bel W w' :=
  (lw_read h 0 (some (0, lab)) ⟨by decide, rfl⟩).mono fun e w' h => by obtain ⟨hb, A, he, hv⟩ := h; exact ⟨A, he, hv, hb⟩
theorem lw_r10 {w W : World} {bl bd : Nat} (h : OwnL w W bl bd lk2 18 0) : Calls Tryz.prog 15 #[.pointer (some ⟨bl, 0, none⟩), .int .i64 10] W fun e w' => ∃ A, e = .returned (.tuple #[.slice A 0 0, .int .i64 18, .int .i64 0]) ∧ Bel W w' :=
  (lw_read h 10 (some (10, [])) ⟨by decide, rfl⟩).mono fun e w' h => by obtain ⟨hb, A, he, hv⟩ := h; exact ⟨A, he, hb⟩
theorem lw_r1 {w W : World} {bl bd : Nat} (h : OwnL w W bl bd lk2 18 0) : Calls Tryz.prog 15 #[.pointer (some ⟨bl, 0, none⟩), .int .i64 1] W fun e w' => e = .returned (.tuple #[.slice none 0 0, .int .i64 0, .int .i64 4]) ∧ Bel W w' :=
  (lw_read h 1 none (by decide)).mono fun e w' h => by obtain ⟨hb, he⟩ := h; exact ⟨he, hb⟩
theorem lw_end {w W : World} {bl bd : Nat} {m : DM} {en tn : Int} (h : OwnL w W bl bd m en tn) : Calls Tryz.prog 16 #[.pointer (some ⟨bl, 0, none⟩)] W fun e w' => e = .returned (.int .i64 en) ∧ W = w' := by
  obtain ⟨fd, h1, _⟩ := h
  exact lend_any h1
theorem lw_torn {w W : World} {bl bd : Nat} {m : DM} {en tn : Int} (h : OwnL w W bl bd m en tn) : Calls Tryz.prog 19 #[.pointer (some ⟨bl, 0, none⟩)] W fun e w' => e = .returned (.int .i64 tn) ∧ W = w' := by
  obtain ⟨fd, h1, _⟩ := h
  exact ltorn_any h1
theorem lw_sync {w W : World} {bl bd : Nat} {en tn : Int} (h : OwnL w W bl bd lk2 en tn) : Calls Tryz.prog 17 #[.pointer (some ⟨bd, 0, none⟩)] W fun e w' => e = .returned (.int .i64 0) ∧ OwnL w w' bl bd lk3 en tn := by
  obtain ⟨fd, h1, h2, h3, h4⟩ := h
  exact (sync_any h1.disk lfit2.ne).mono fun e w' h => OwnL.op h1 h h2 h3 h4
theorem lw_crash {w W : World} {bl bd : Nat} {en tn : Int} (h : OwnL w W bl bd lk4 en tn) : Calls Tryz.prog 18 #[.pointer (some ⟨bd, 0, none⟩), .int .i64 0, .int .i64 4] W fun e w' => e = .returned (.int .i64 0) ∧ OwnL w w' bl bd lk5 en tn := by
  obtain ⟨fd, h1, h2, h3, h4⟩ := h
  exact (crash_any h1.disk lfit4.ne 0 4 (by decide) (by decide) (by
    intro k x hk
    rw [lk4_loose] at hk
    have hlt := (List.getElem?_eq_some_iff.1 hk).1
    obtain rfl : k = 0 := by simp at hlt; omega
    simp at hk
    subst hk
    decide +kernel) lfit4.few).mono fun e w' h => OwnL.op h1 h h2 h3 h4
theorem lw_open5 {w W : World} {bl bd : Nat} {en tn : Int} (h : OwnL w W bl bd lk5 en tn) (hg : ErrType w) :
    Calls Tryz.prog 7 #[.pointer (some ⟨bd, 0, none⟩), .int .i64 3] W fun e w' => ∃ bl m', e = .returned (.tuple #[.pointer (some ⟨bl, 0, none⟩), .int .i64 0]) ∧ OwnL w w' bl bd m' 18 4 := by
  obtain ⟨fd, h1, h2, h3, hB⟩ := h
  refine (lopen_any h1.disk lfit5 (hg.bel hB) 3 (by decide) (by decide) [lab, []] ((recN lc).take 4) (by decide) lk_t lk_f5).mono fun e w' h => ?_
  obtain ⟨bl, fd', he, hbl, hl, hO⟩ := h
  rw [lk_r, lk_tl] at hl
  exact ⟨bl, _, he, fd', hl, Nat.le_trans hB.size hbl, fun b hb => (hO.sub b (.inl hb)).elim (h3 b) (fun h => Nat.le_trans hB.size h), hB.trans (hO.below hB.size h3)⟩
end Go.Proofs.YtiajggmnfaidjaaGreatDoor
