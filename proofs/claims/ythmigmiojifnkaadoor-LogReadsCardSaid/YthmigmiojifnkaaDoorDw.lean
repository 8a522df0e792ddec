/-
  The chapter's rows over a disk: the law's works.
-/
import Derived.Test.YthmigmiojifnkaaDoorDv
import Derived.Lib.SlBytesConst
set_option linter.unusedVariables false
set_option linter.unusedSimpArgs false
set_option linter.unusedVariables false
set_option linter.unusedSimpArgs false
namespace Go.Proofs.YthmigmiojifnkaaDoor
open Go.RowKit

/-- A call on a disk of the law's own: what it hands back; all else of old lies as it lay. -/
def GivesOwn (w : World) (bd : Nat) (m' : DM) (r : Int) (e : Ending) (w' : World) : Prop := e = .returned (.int .i64 r) ∧ ∃ fp', DiskIs w' bd m' fp' ∧ (∀ b, fp' b → w.heap.size ≤ b) ∧ Bel w w'
theorem GivesOp.own {w W W1 : World} {bd : Nat} {m' : DM} {r : Int} {fp : Nat → Prop} {e : Ending} (h : GivesOp bd m' r fp W e W1) (hB : Bel w W) (hf : ∀ b, fp b → w.heap.size ≤ b) : GivesOwn w bd m' r e W1 := by
  obtain ⟨he, fp', hD, hO⟩ := h
  exact ⟨he, fp', hD, fun b hb => (hO.sub b hb).elim (hf b) (fun h => Nat.le_trans hB.size h), hB.trans (hO.below hB.size hf)⟩
theorem lit_reads (W : World) (s : List UInt8) : Reads (W.alloc (.cells (s.map bv).toArray 5 (s.length, s.length + 1))) (W.alloc (.cells (s.map bv).toArray 5 (s.length, s.length + 1))).heap.size 1 (some ⟨W.heap.size, 0, none⟩) s.length (s.map bv) := by
  refine ⟨by simp, fun _ => ⟨_, rfl, by simp, fun j u hu => ?_⟩⟩
  have hb := World.alloc_heap_new W (.cells (s.map bv).toArray 5 (s.length, s.length + 1))
  have e : (Addr.add ⟨W.heap.size, 0, none⟩ j) = ⟨W.heap.size, j, none⟩ := by unfold Addr.add; split <;> simp_all
  rw [e]
  simp only [World.cell?, hb]
  simpa using hu
theorem pair_eq {α β : Type} {p : α × β} {a : α} {b : β} (h1 : p.1 = a) (h2 : p.2 = b) : p = (a, b) := by subst h1 h2; rfl
theorem wk1_def : (wk0.append 0 abc).1 = wk1 := by delta wk1; exact Eq.refl _
theorem wk3_def : (wk2.append 0 def_).1 = wk3 := by delta wk3; exact Eq.refl _
theorem wk4_def : (wk3.append 1 gh).1 = wk4 := by delta wk4; exact Eq.refl _
theorem wk3_loose : wk3.loose = [⟨0, def_, 0, false⟩] := by
  have : ¬ wk2.room - tot wk2.files < def_.length := by decide +kernel
  rw [← wk3_def]; unfold DM.append; rw [if_neg (by decide), if_neg this]; exact Eq.refl _
theorem wk4_loose : wk4.loose = [⟨0, def_, 0, false⟩, ⟨1, gh, 0, false⟩] := by
  have : ¬ wk3.room - tot wk3.files < gh.length := by decide +kernel
  rw [← wk4_def]; unfold DM.append; rw [if_neg (by decide), if_neg this]; show wk3.loose ++ _ = _; rw [wk3_loose]; exact Eq.refl _
theorem wk6_def : (wk5.cut 0 2).1 = wk6 := by delta wk6; exact Eq.refl _
theorem wk6_loose : wk6.loose = [⟨0, [], 2, true⟩] := by
  have : ¬ (((0 : Int) < 0 ∨ (64 : Int) ≤ 0) ∨ ((wk5.files 0).length : Int) < 2) := by decide +kernel
  rw [← wk6_def]; unfold DM.cut; rw [if_neg (by decide), if_neg this]; show wk5.loose ++ _ = _; exact Eq.refl _
theorem lit_append {w W : World} {bd : Nat} {m m' : DM} {k : Int} {fp : Nat → Prop} (file : Int) (s : List UInt8) (hs : s.length ≤ 100) (h : DiskIs W bd m fp) (hfit : Fit m) (hg : ErrType W) (hB : Bel w W) (hf : ∀ b, fp b → w.heap.size ≤ b) (hm : m.append file s = (m', k)) :
    Calls Tryd.prog 26 #[.pointer (some ⟨bd, 0, none⟩), .int .i64 file, .slice (some ⟨W.heap.size, 0, none⟩) s.length s.length] (W.alloc (.cells (s.map bv).toArray 5 (s.length, s.length + 1))) (GivesOwn w bd m' k) := by
  have hb : Bel W (W.alloc (.cells (s.map bv).toArray 5 (s.length, s.length + 1))) := (Bel.refl W).alloc _
  have := append_any (h.bel hb) hfit (hg.bel hb) file (some ⟨W.heap.size, 0, none⟩) s.length s.length s rfl (fun e => by cases e) (by omega) (lit_reads W s)
  rw [hm] at this
  exact this.mono fun e w' h => h.own (hB.then_ hb) hf
theorem wAp_abc {w W : World} {bd : Nat} {fp : Nat → Prop} (h : DiskIs W bd wk0 fp) (hg : ErrType W) (hB : Bel w W) (hf : ∀ b, fp b → w.heap.size ≤ b) :
    Calls Tryd.prog 26 #[.pointer (some ⟨bd, 0, none⟩), .int .i64 0, .slice (some ⟨W.heap.size, 0, none⟩) 3 3] (W.alloc (.cells #[.int .u8 97, .int .u8 98, .int .u8 99] 5 (3, 4))) (GivesOwn w bd wk1 0) :=
  lit_append 0 abc (by decide) h fit0 hg hB hf (pair_eq wk1_def wk_1)
theorem wAp_def_ {w W : World} {bd : Nat} {fp : Nat → Prop} (h : DiskIs W bd wk2 fp) (hg : ErrType W) (hB : Bel w W) (hf : ∀ b, fp b → w.heap.size ≤ b) :
    Calls Tryd.prog 26 #[.pointer (some ⟨bd, 0, none⟩), .int .i64 0, .slice (some ⟨W.heap.size, 0, none⟩) 3 3] (W.alloc (.cells #[.int .u8 100, .int .u8 101, .int .u8 102] 5 (3, 4))) (GivesOwn w bd wk3 0) :=
  lit_append 0 def_ (by decide) h fit2 hg hB hf (pair_eq wk3_def wk_3)
theorem wAp_gh {w W : World} {bd : Nat} {fp : Nat → Prop} (h : DiskIs W bd wk3 fp) (hg : ErrType W) (hB : Bel w W) (hf : ∀ b, fp b → w.heap.size ≤ b) :
    Calls Tryd.prog 26 #[.pointer (some ⟨bd, 0, none⟩), .int .i64 1, .slice (some ⟨W.heap.size, 0, none⟩) 2 2] (W.alloc (.cells #[.int .u8 103, .int .u8 104] 5 (2, 3))) (GivesOwn w bd wk4 0) :=
  lit_append 1 gh (by decide) h fit3 hg hB hf (pair_eq wk4_def wk_4)
theorem wAp_xyz {w W : World} {bd : Nat} {fp : Nat → Prop} (h : DiskIs W bd wk4 fp) (hg : ErrType W) (hB : Bel w W) (hf : ∀ b, fp b → w.heap.size ≤ b) :
    Calls Tryd.prog 26 #[.pointer (some ⟨bd, 0, none⟩), .int .i64 2, .slice (some ⟨W.heap.size, 0, none⟩) 3 3] (W.alloc (.cells #[.int .u8 120, .int .u8 121, .int .u8 122] 5 (3, 4))) (GivesOwn w bd wk4 190) :=
  lit_append 2 xyz (by decide) h fit4 hg hB hf (wk_4f)
theorem wSync {w W : World} {bd : Nat} {fp : Nat → Prop} (h : DiskIs W bd wk1 fp) (hB : Bel w W) (hf : ∀ b, fp b → w.heap.size ≤ b) : Calls Tryd.prog 24 #[.pointer (some ⟨bd, 0, none⟩)] W (GivesOwn w bd wk2 0) :=
  (sync_any h fit1.ne).mono fun e w' h => h.own hB hf
theorem wCrash5 {w W : World} {bd : Nat} {fp : Nat → Prop} (h : DiskIs W bd wk4 fp) (hB : Bel w W) (hf : ∀ b, fp b → w.heap.size ≤ b) : Calls Tryd.prog 15 #[.pointer (some ⟨bd, 0, none⟩), .int .i64 1, .int .i64 1] W (GivesOwn w bd wk5 0) :=
  (crash_any h fit4.ne 1 1 (by decide) (by decide) (by
    intro k x hk
    rw [wk4_loose] at hk
    have hlt := (List.getElem?_eq_some_iff.1 hk).1
    have hk2 : k = 0 ∨ k = 1 := by simp at hlt; omega
    rcases hk2 with rfl | rfl
    · simp at hk; subst hk; decide +kernel
    · simp at hk; subst hk; decide +kernel) fit4.few).mono fun e w' h => h.own hB hf
theorem wCut6 {w W : World} {bd : Nat} {fp : Nat → Prop} (h : DiskIs W bd wk5 fp) (hg : ErrType W) (hB : Bel w W) (hf : ∀ b, fp b → w.heap.size ≤ b) : Calls Tryd.prog 39 #[.pointer (some ⟨bd, 0, none⟩), .int .i64 0, .int .i64 2] W (GivesOwn w bd wk6 0) := by
  have := cutM_any h fit5 hg 0 2
  rw [wk_6] at this
  exact this.mono fun e w' h => h.own hB hf
theorem wCrash7 {w W : World} {bd : Nat} {fp : Nat → Prop} (h : DiskIs W bd wk6 fp) (hB : Bel w W) (hf : ∀ b, fp b → w.heap.size ≤ b) : Calls Tryd.prog 15 #[.pointer (some ⟨bd, 0, none⟩), .int .i64 0, .int .i64 9] W (GivesOwn w bd wk7 0) :=
  (crash_any h fit6.ne 0 9 (by decide) (by decide) (by
    intro k x hk
    rw [wk6_loose] at hk
    have hlt := (List.getElem?_eq_some_iff.1 hk).1
    obtain rfl : k = 0 := by simp at hlt; omega
    simp at hk
    subst hk
    decide +kernel) fit6.few).mono fun e w' h => h.own hB hf
theorem wCut8 {w W : World} {bd : Nat} {fp : Nat → Prop} (h : DiskIs W bd wk7 fp) (hg : ErrType W) (hB : Bel w W) (hf : ∀ b, fp b → w.heap.size ≤ b) : Calls Tryd.prog 39 #[.pointer (some ⟨bd, 0, none⟩), .int .i64 0, .int .i64 7] W (GivesOwn w bd wk7 4) := by
  have := cutM_any h fit7 hg 0 7
  rw [wk_7c] at this
  exact this.mono fun e w' h => h.own hB hf
theorem wLeft {W : World} {bd : Nat} {fp : Nat → Prop} (h : DiskIs W bd wk4 fp) : Calls Tryd.prog 32 #[.pointer (some ⟨bd, 0, none⟩)] W fun e w' => e = .returned (.int .i64 2) ∧ Bel W w' := by
  have := left_any h fit4.lo fit4.hi fit4.files
  rw [wk_4t] at this
  exact this
theorem wLoose {W : World} {bd : Nat} {fp : Nat → Prop} (h : DiskIs W bd wk4 fp) : Calls Tryd.prog 16 #[.pointer (some ⟨bd, 0, none⟩)] W fun e w' => e = .returned (.int .i64 2) ∧ W = w' := by
  have := loose_any h fit4.ne
  rw [wk_4l] at this
  exact this
theorem wRead5a {W : World} {bd : Nat} {fp : Nat → Prop} (h : DiskIs W bd wk5 fp) : Calls Tryd.prog 14 #[.pointer (some ⟨bd, 0, none⟩), .int .i64 0] W fun e w' => e = .returned (.string ⟨#[97, 98, 99, 100, 101, 102]⟩) ∧ Bel W w' := by
  have := dread_any h fit5 0 (by decide) (by decide)
  rw [wk_5a] at this
  exact this
theorem wRead5b {W : World} {bd : Nat} {fp : Nat → Prop} (h : DiskIs W bd wk5 fp) : Calls Tryd.prog 14 #[.pointer (some ⟨bd, 0, none⟩), .int .i64 1] W fun e w' => e = .returned (.string ⟨#[103]⟩) ∧ Bel W w' := by
  have := dread_any h fit5 1 (by decide) (by decide)
  rw [wk_5b] at this
  exact this
theorem wRead7 {W : World} {bd : Nat} {fp : Nat → Prop} (h : DiskIs W bd wk7 fp) : Calls Tryd.prog 14 #[.pointer (some ⟨bd, 0, none⟩), .int .i64 0] W fun e w' => e = .returned (.string ⟨#[97, 98, 99, 100, 101, 102]⟩) ∧ Bel W w' := by
  have := dread_any h fit7 0 (by decide) (by decide)
  rw [wk_7a] at this
  exact this
set_option maxRecDepth 100000 in
set_option maxHeartbeats 4000000 in
theorem dworks_any (w : World) (hg : ErrType w) : Calls Tryd.prog 9 #[] w fun e w' => e = .returned (.bool true) ∧ Bel w w' := by
  have hcv := fun (w : World) (C : Array Value) (n c : Nat) => Lib.run_convert_bytes_const (P := Tryd.prog) w 31 5 C n c Tryd.underlying31 Tryd.underlying5
  have HG := Lib.hid hg
  have HN := Lib.hid (new_any 10 (by decide) (by decide) w)
  clear hg
  go_enter Tryd.func9, Tryd.ntmps9
  go_wp2_with fail
  refine HN.out.mono ?_
  rintro e w0 ⟨bd, fp0, rfl, hD, hf, hb⟩
  have HD0 := Lib.hid hD
  have HF0 := Lib.hid hf
  have HB0 := Lib.hid hb
  clear hD hf hb HN
  have HC := Lib.hid (wAp_abc HD0.out (HG.out.bel HB0.out) HB0.out HF0.out)
  go_wp2_with (go_at_call 11; refine (num_any _ _).mono ?_; rintro e w' ⟨rfl, rfl⟩)
  refine HC.out.mono ?_
  rintro e w1 ⟨rfl, fp1, hD, hf, hb⟩
  have HD1 := Lib.hid hD
  have HF1 := Lib.hid hf
  have HB1 := Lib.hid hb
  clear hD hf hb HC
  have HC := Lib.hid (wSync HD1.out HB1.out HF1.out)
  go_wp2_with (go_at_call 11; refine (num_any _ _).mono ?_; rintro e w' ⟨rfl, rfl⟩)
  refine HC.out.mono ?_
  rintro e w2 ⟨rfl, fp2, hD, hf, hb⟩
  have HD2 := Lib.hid hD
  have HF2 := Lib.hid hf
  have HB2 := Lib.hid hb
  clear hD hf hb HC
  have HC := Lib.hid (wAp_def_ HD2.out (HG.out.bel HB2.out) HB2.out HF2.out)
  go_wp2_with (go_at_call 11; refine (num_any _ _).mono ?_; rintro e w' ⟨rfl, rfl⟩)
  refine HC.out.mono ?_
  rintro e w3 ⟨rfl, fp3, hD, hf, hb⟩
  have HD3 := Lib.hid hD
  have HF3 := Lib.hid hf
  have HB3 := Lib.hid hb
  clear hD hf hb HC
  have HC := Lib.hid (wAp_gh HD3.out (HG.out.bel HB3.out) HB3.out HF3.out)
  go_wp2_with (go_at_call 11; refine (num_any _ _).mono ?_; rintro e w' ⟨rfl, rfl⟩)
  refine HC.out.mono ?_
  rintro e w4 ⟨rfl, fp4, hD, hf, hb⟩
  have HD4 := Lib.hid hD
  have HF4 := Lib.hid hf
  have HB4 := Lib.hid hb
  clear hD hf hb HC
  have HC := Lib.hid (wLoose HD4.out)
  go_wp2_with (go_at_call 11; refine (num_any _ _).mono ?_; rintro e w' ⟨rfl, rfl⟩)
  refine HC.out.mono ?_
  rintro e w99 ⟨rfl, rfl⟩
  clear HC
  have HC := Lib.hid (wLeft HD4.out)
  go_wp2_with (go_at_call 11; refine (num_any _ _).mono ?_; rintro e w' ⟨rfl, rfl⟩)
  refine HC.out.mono ?_
  rintro e w5 ⟨rfl, hb⟩
  have HD5 := Lib.hid (HD4.out.bel hb)
  have HF5 := HF4
  have HB5 := Lib.hid (HB4.out.then_ hb)
  clear hb HC
  have HC := Lib.hid (wAp_xyz HD5.out (HG.out.bel HB5.out) HB5.out HF5.out)
  go_wp2_with (go_at_call 11; refine (num_any _ _).mono ?_; rintro e w' ⟨rfl, rfl⟩)
  refine HC.out.mono ?_
  rintro e w6 ⟨rfl, fp6, hD, hf, hb⟩
  have HD6 := Lib.hid hD
  have HF6 := Lib.hid hf
  have HB6 := Lib.hid hb
  clear hD hf hb HC
  have HC := Lib.hid (wCrash5 HD6.out HB6.out HF6.out)
  go_wp2_with (go_at_call 11; refine (num_any _ _).mono ?_; rintro e w' ⟨rfl, rfl⟩)
  refine HC.out.mono ?_
  rintro e w7 ⟨rfl, fp7, hD, hf, hb⟩
  have HD7 := Lib.hid hD
  have HF7 := Lib.hid hf
  have HB7 := Lib.hid hb
  clear hD hf hb HC
  have HC := Lib.hid (wRead5a HD7.out)
  go_wp2_with (go_at_call 11; refine (num_any _ _).mono ?_; rintro e w' ⟨rfl, rfl⟩)
  refine HC.out.mono ?_
  rintro e w8 ⟨rfl, hb⟩
  have HD8 := Lib.hid (HD7.out.bel hb)
  have HF8 := HF7
  have HB8 := Lib.hid (HB7.out.then_ hb)
  clear hb HC
  have HC := Lib.hid (wRead5b HD8.out)
  go_wp2_with (go_at_call 11; refine (num_any _ _).mono ?_; rintro e w' ⟨rfl, rfl⟩)
  refine HC.out.mono ?_
  rintro e w9 ⟨rfl, hb⟩
  have HD9 := Lib.hid (HD8.out.bel hb)
  have HF9 := HF8
  have HB9 := Lib.hid (HB8.out.then_ hb)
  clear hb HC
  have HC := Lib.hid (wCut6 HD9.out (HG.out.bel HB9.out) HB9.out HF9.out)
  go_wp2_with (go_at_call 11; refine (num_any _ _).mono ?_; rintro e w' ⟨rfl, rfl⟩)
  refine HC.out.mono ?_
  rintro e w10 ⟨rfl, fp10, hD, hf, hb⟩
  have HD10 := Lib.hid hD
  have HF10 := Lib.hid hf
  have HB10 := Lib.hid hb
  clear hD hf hb HC
  have HC := Lib.hid (wCrash7 HD10.out HB10.out HF10.out)
  go_wp2_with (go_at_call 11; refine (num_any _ _).mono ?_; rintro e w' ⟨rfl, rfl⟩)
  refine HC.out.mono ?_
  rintro e w11 ⟨rfl, fp11, hD, hf, hb⟩
  have HD11 := Lib.hid hD
  have HF11 := Lib.hid hf
  have HB11 := Lib.hid hb
  clear hD hf hb HC
  have HC := Lib.hid (wRead7 HD11.out)
  go_wp2_with (go_at_call 11; refine (num_any _ _).mono ?_; rintro e w' ⟨rfl, rfl⟩)
  refine HC.out.mono ?_
  rintro e w12 ⟨rfl, hb⟩
  have HD12 := Lib.hid (HD11.out.bel hb)
  have HF12 := HF11
  have HB12 := Lib.hid (HB11.out.then_ hb)
  clear hb HC
  have HC := Lib.hid (wCut8 HD12.out (HG.out.bel HB12.out) HB12.out HF12.out)
  go_wp2_with (go_at_call 11; refine (num_any _ _).mono ?_; rintro e w' ⟨rfl, rfl⟩)
  refine HC.out.mono ?_
  rintro e w13 ⟨rfl, fp13, hD, hf, hb⟩
  have HD13 := Lib.hid hD
  have HF13 := Lib.hid hf
  have HB13 := Lib.hid hb
  clear hD hf hb HC
  go_wp2_with (go_at_call 11; refine (num_any _ _).mono ?_; rintro e w' ⟨rfl, rfl⟩)
  go_ret
  exact ⟨rfl, HB13.out⟩
end Go.Proofs.YthmigmiojifnkaaDoor
