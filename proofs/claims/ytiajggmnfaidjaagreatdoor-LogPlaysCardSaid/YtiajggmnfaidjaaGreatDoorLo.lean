/-
  The log: its handle; none, End, Torn; append, Append.
-/
import Derived.Test.YtiajggmnfaidjaaGreatDoorLg
import Derived.Test.YtiajggmnfaidjaaGreatDoorDv
set_option linter.unusedVariables false
set_option linter.unusedSimpArgs false
set_option linter.unusedVariables false
set_option linter.unusedSimpArgs false
namespace Go.Proofs.YtiajggmnfaidjaaGreatDoor
open Go.RowKit

/-- A disk's footprint may be taken no wider than what there is. -/
theorem DiskIs.tight {w : World} {bd : Nat} {m : DM} {fp : Nat → Prop} (h : DiskIs w bd m fp) : DiskIs w bd m (fun b => fp b ∧ b < w.heap.size) := by
  have hlt : ∀ {b : Nat} {o : Obj}, w.heap[b]? = some o → b < w.heap.size := fun h => (Array.getElem?_eq_some_iff.1 h).1
  have hF : ∀ mf f, FilesAt w mf f fp → FilesAt w mf f (fun b => fp b ∧ b < w.heap.size) := fun mf f h => by
    obtain ⟨h0, g, hm, h1, h2⟩ := h
    exact ⟨⟨h0, hm.lt⟩, g, hm, fun k v hv => by obtain ⟨a, b, c⟩ := h1 k v hv; exact ⟨a, b, c.mono (fun b hb hl => ⟨hb, hl⟩)⟩, h2⟩
  obtain ⟨mf, ms, L, h1, h2, h3, h4, h5, cs, h6, h7, h8⟩ := h
  refine ⟨mf, ms, L, h1, ⟨h2, hlt h1⟩, h3, hF _ _ h4, hF _ _ h5, cs, h6, fun g hg => ⟨h7 g hg, (h6.lt g hg).2⟩, fun i x hi => ?_⟩
  have ht := h8 i x hi
  refine ⟨ht.1, ?_⟩
  rcases ht.2 with ⟨a, b, bx, v, c, d, e, f⟩ | ⟨a, b, c, d, bx, e, f, g⟩
  · exact .inl ⟨a, b, bx, v, ⟨c, hlt e⟩, d, e, f.mono (fun b hb hl => ⟨hb, hl⟩)⟩
  · exact .inr ⟨a, b, c, d, bx, ⟨e, hlt g⟩, f, g⟩
/-- A log: its own block, beside its disk. -/
structure LogIs (w : World) (bl bd : Nat) (m : DM) (file en tn : Int) (fd : Nat → Prop) : Prop where
  blk : w.heap[bl]? = some (.cells #[.pointer (some ⟨bd, 0, none⟩), .int .i64 file, .int .i64 en, .int .i64 tn] 65 (0, 0))
  nfd : ¬ fd bl
  tight : ∀ b, fd b → b < w.heap.size
  disk : DiskIs w bd m fd
theorem LogIs.bel {w w' : World} {bl bd : Nat} {m : DM} {file en tn : Int} {fd : Nat → Prop} (h : LogIs w bl bd m file en tn fd) (hb : Bel w w') : LogIs w' bl bd m file en tn fd :=
  ⟨hb.deferred h.blk, h.nfd, fun b hf => Nat.lt_of_lt_of_le (h.tight b hf) hb.size, h.disk.bel hb⟩
theorem LogIs.cells {w : World} {bl bd : Nat} {m : DM} {file en tn : Int} {fd : Nat → Prop} (h : LogIs w bl bd m file en tn fd) :
    w.cell? ⟨bl, 0, none⟩ = some (.pointer (some ⟨bd, 0, none⟩)) ∧ w.cell? ⟨bl, 1, none⟩ = some (.int .i64 file) ∧ w.cell? ⟨bl, 2, none⟩ = some (.int .i64 en) ∧ w.cell? ⟨bl, 3, none⟩ = some (.int .i64 tn) ∧ ∀ i, w.frozen? ⟨bl, i, none⟩ = false := by
  have hb := h.blk
  exact ⟨by simp [World.cell?, hb], by simp [World.cell?, hb], by simp [World.cell?, hb], by simp [World.cell?, hb], fun i => by simp [World.frozen?, hb]⟩
/-- Behind a call on its disk a log is as it was, with the disk as it is now. -/
theorem LogIs.op {w w' : World} {bl bd : Nat} {m m' : DM} {file en tn : Int} {fd fp' : Nat → Prop} (h : LogIs w bl bd m file en tn fd) (hD : DiskIs w' bd m' fp') (hO : Opp fd fp' w w') : LogIs w' bl bd m' file en tn (fun b => fp' b ∧ b < w'.heap.size) := by
  have hl := (Array.getElem?_eq_some_iff.1 h.blk).1
  exact ⟨(hO.block bl hl h.nfd).trans h.blk, fun hf => (hO.sub bl hf.1).elim h.nfd (fun h => by omega), fun b hf => hf.2, hD.tight⟩
theorem lnone_any {w : World} {bl bd : Nat} {m : DM} {file en tn : Int} {fd : Nat → Prop} (h : LogIs w bl bd m file en tn fd) : Calls Tryz.prog 38 #[.pointer (some ⟨bl, 0, none⟩)] w fun e w' => e = .returned (.bool false) ∧ w = w' := by
  obtain ⟨c0, c1, c2, c3, hf⟩ := h.cells
  clear h
  go_enter Tryz.func38, Tryz.ntmps38
  go_wp2
  go_ret
  exact ⟨rfl, rfl⟩
theorem lnone_nil (w : World) : Calls Tryz.prog 38 #[.pointer none] w fun e w' => e = .returned (.bool true) ∧ w = w' := by
  go_enter Tryz.func38, Tryz.ntmps38
  go_wp2
  go_ret
  exact ⟨rfl, rfl⟩
theorem lend_any {w : World} {bl bd : Nat} {m : DM} {file en tn : Int} {fd : Nat → Prop} (h : LogIs w bl bd m file en tn fd) : Calls Tryz.prog 16 #[.pointer (some ⟨bl, 0, none⟩)] w fun e w' => e = .returned (.int .i64 en) ∧ w = w' := by
  have HN := Lib.hid (lnone_any h)
  obtain ⟨c0, c1, c2, c3, hf⟩ := h.cells
  clear h
  go_enter Tryz.func16, Tryz.ntmps16
  go_wp2_with (go_at_call 38; refine HN.out.mono ?_; rintro e w' ⟨rfl, rfl⟩)
  go_ret
  exact ⟨rfl, rfl⟩
theorem ltorn_any {w : World} {bl bd : Nat} {m : DM} {file en tn : Int} {fd : Nat → Prop} (h : LogIs w bl bd m file en tn fd) : Calls Tryz.prog 19 #[.pointer (some ⟨bl, 0, none⟩)] w fun e w' => e = .returned (.int .i64 tn) ∧ w = w' := by
  have HN := Lib.hid (lnone_any h)
  obtain ⟨c0, c1, c2, c3, hf⟩ := h.cells
  clear h
  go_enter Tryz.func19, Tryz.ntmps19
  go_wp2_with (go_at_call 38; refine HN.out.mono ?_; rintro e w' ⟨rfl, rfl⟩)
  go_ret
  exact ⟨rfl, rfl⟩
/-- A call on a log: what it hands back; how the log stands then; nothing beside it and its disk has turned. -/
def GivesLog (bl bd : Nat) (m' : DM) (file en' tn : Int) (fd : Nat → Prop) (v : Value) (w : World) (e : Ending) (w' : World) : Prop :=
  e = .returned v ∧ ∃ fd', LogIs w' bl bd m' file en' tn fd' ∧ Opp (fun b => fd b ∨ b = bl) (fun b => fd' b ∨ b = bl) w w'
theorem opp_log {fd fp' : Nat → Prop} {w w' : World} {bl : Nat} (h : Opp fd fp' w w') : Opp (fun b => fd b ∨ b = bl) (fun b => (fp' b ∧ b < w'.heap.size) ∨ b = bl) w w' :=
  ⟨h.os, h.tape, h.output, h.size, fun k hk hn => h.block k hk (fun hf => hn (.inl hf)), fun b hb => hb.elim (fun hb => (h.sub b hb.1).elim (fun h => .inl (.inl h)) .inr) (fun h => .inl (.inr h))⟩
theorem keepL {V V' : World} {bl bd : Nat} {file : Int} (hb : Bel V V') (h : V.cell? ⟨bl, 0, none⟩ = some (.pointer (some ⟨bd, 0, none⟩)) ∧ V.cell? ⟨bl, 1, none⟩ = some (.int .i64 file)) : V'.cell? ⟨bl, 0, none⟩ = some (.pointer (some ⟨bd, 0, none⟩)) ∧ V'.cell? ⟨bl, 1, none⟩ = some (.int .i64 file) := ⟨hb.c h.1, hb.c h.2⟩
theorem LogIs.setEnd {w : World} {bl bd : Nat} {m : DM} {file en tn : Int} {fd : Nat → Prop} (h : LogIs w bl bd m file en tn fd) (en' : Int) : LogIs (w.setCell ⟨bl, 2, none⟩ (.int .i64 en')) bl bd m file en' tn fd := by
  refine ⟨?_, h.nfd, fun b hb => by simpa using h.tight b hb, h.disk.kept fun b hb _ => Below.heap_setCell _ _ _ _ (fun e => by have e' : b = bl := e; subst e'; exact h.nfd hb)⟩
  have := Blk.set_ (w := w) (g := bl) (t := 65) (cs := #[.pointer (some ⟨bd, 0, none⟩), .int .i64 file, .int .i64 en, .int .i64 tn]) h.blk 2 (.int .i64 en')
  simpa [Blk] using this
theorem opp_setCell (fd : Nat → Prop) (w : World) (bl i : Nat) (v : Value) : Opp (fun b => fd b ∨ b = bl) (fun b => fd b ∨ b = bl) w (w.setCell ⟨bl, i, none⟩ v) :=
  ⟨rfl, rfl, rfl, by simp, fun k _ hn => Below.heap_setCell _ _ _ _ (fun e => hn (.inr e)), fun _ h => .inl h⟩
set_option maxRecDepth 100000 in
set_option maxHeartbeats 1000000 in
theorem lappend_ok {w : World} {bl bd : Nat} {m : DM} {file en tn : Int} {fd : Nat → Prop} (h : LogIs w bl bd m file en tn fd) (hfit : Fit m) (hg : ErrType w) (he0 : 0 ≤ en) (he : en ≤ 1000000000) (s : List UInt8) (A : Option Addr) (cap : Nat) (hs : s.length ≤ 60000) (hr : Reads w w.heap.size 1 A s.length (s.map bv))
    (hok : (m.append file (recN s)).2 = 0) : Calls Tryz.prog 36 #[.pointer (some ⟨bl, 0, none⟩), .slice A s.length cap] w (GivesLog bl bd (m.append file (recN s)).1 file (en + (s.length + 8 : Nat)) tn fd .nilIface w) := by
  have HN := Lib.hid (lnone_any h)
  have HREC := Lib.hid (record_any s A cap hs w hr)
  have H := Lib.hid h
  have HG := Lib.hid hg
  have HFIT := Lib.hid hfit
  have HOK := Lib.hid hok
  have hsI : (s.length : Int) ≤ 60000 := by omega
  clear h hg hfit hok hr
  go_enter Tryz.func36, Tryz.ntmps36
  go_wp2_with (first | (go_at_call 38; refine HN.out.mono ?_; rintro e w' ⟨rfl, rfl⟩) | (go_at_call 13; refine HREC.out.mono ?_; rintro e w1 ⟨A1, c1, rfl, hown, hb1⟩))
  have h1 := H.out.bel hb1
  obtain ⟨k0, k1, k2, k3, kf⟩ := h1.cells
  have hS0 : (fun V : World => V.cell? ⟨bl, 0, none⟩ = some (.pointer (some ⟨bd, 0, none⟩)) ∧ V.cell? ⟨bl, 1, none⟩ = some (.int .i64 file)) w1.drew := ⟨k0, k1⟩
  have hbd : Bel w1 w1.drew := (Bel.refl w1).drew
  have h1d := h1.bel hbd
  have happ := append_any h1d.disk HFIT.out (HG.out.bel (hb1.then_ hbd)) file A1 (s.length + 8) c1 (recN s) (recN_length s).symm (fun hA => by subst hA; have := hown.form (by omega); obtain ⟨g, cp, hv, _⟩ := this; cases hv) (by rw [recN_length]; omega) (by have := Reads.of_own hown; rw [recN_length]; exact this.drew)
  rw [HOK.out] at happ
  have HAPP := Lib.hid happ
  have H1D := Lib.hid h1d
  have HB1 := Lib.hid (hb1.then_ hbd)
  clear happ h1d h1 hb1 hbd hown
  have hOb : Bel w w1.drew := HB1.out
  have HOB := Lib.hid hOb
  clear hOb
  go_wp2
  go_region_held3 (fun V : World => V.cell? ⟨bl, 0, none⟩ = some (.pointer (some ⟨bd, 0, none⟩)) ∧ V.cell? ⟨bl, 1, none⟩ = some (.int .i64 file))
    (first | assumption | exact hS0 | exact ⟨hlg.cells.1, hlg.cells.2.1⟩)
    ((go_at_call 58; refine HAPP.out.mono ?_; rintro e w2 ⟨rfl, fp2, hD, hO⟩; have hlg := H1D.out.op hD hO))
  obtain ⟨q0, q1, q2, q3, qf⟩ := hlg.cells
  have hq2 := qf 2
  have HLG := Lib.hid hlg
  have HO := Lib.hid hO
  clear hlg hO hD hS0 qf k0 k1 k2 k3 kf
  go_wp2
  go_ret
  refine ⟨rfl, _, HLG.out.setEnd _, ?_⟩
  have hmono : ∀ b, (fun b => fd b ∨ b = bl) b → (fun b => fd b ∨ b = bl) b := fun _ h => h
  exact (Opp.of_bel HOB.out).trans ((opp_log HO.out).trans (opp_setCell _ _ _ _ _))
/-- The log's Append, where there is room. -/
theorem lAppend_ok {w : World} {bl bd : Nat} {m : DM} {file en tn : Int} {fd : Nat → Prop} (h : LogIs w bl bd m file en tn fd) (hfit : Fit m) (hg : ErrType w) (he0 : 0 ≤ en) (he : en ≤ 1000000000) (s : List UInt8) (A : Option Addr) (cap : Nat) (hs : s.length ≤ 60000) (hr : Reads w w.heap.size 1 A s.length (s.map bv))
    (hok : (m.append file (recN s)).2 = 0) : Calls Tryz.prog 14 #[.pointer (some ⟨bl, 0, none⟩), .slice A s.length cap] w (GivesLog bl bd (m.append file (recN s)).1 file (en + (s.length + 8 : Nat)) tn fd (.tuple #[.int .i64 en, .int .i64 0]) w) := by
  have HE := Lib.hid (lend_any h)
  have HA := Lib.hid (lappend_ok h hfit hg he0 he s A cap hs hr hok)
  clear h hfit hg hr hok
  go_enter Tryz.func14, Tryz.ntmps14
  go_wp2_with (first | (go_at_call 16; refine HE.out.mono ?_; rintro e w' ⟨rfl, rfl⟩) | (go_at_call 36; refine HA.out.mono ?_; rintro e w1 ⟨rfl, hl⟩))
  go_ret2
  exact ⟨rfl, hl⟩
theorem keepO {V V' : World} {bl bd : Nat} {en : Int} (hb : Bel V V') (h : V.cell? ⟨bl, 0, none⟩ = some (.pointer (some ⟨bd, 0, none⟩)) ∧ V.cell? ⟨bl, 2, none⟩ = some (.int .i64 en)) : V'.cell? ⟨bl, 0, none⟩ = some (.pointer (some ⟨bd, 0, none⟩)) ∧ V'.cell? ⟨bl, 2, none⟩ = some (.int .i64 en) := ⟨hb.c h.1, hb.c h.2⟩
/-- The disk behind a log that is opened: what is torn is cut. -/
def DM.opened (m : DM) (file : Int) (n : Nat) : DM := if (m.files file).length = n then m else (m.cut file n).1
/-- What opening hands back. -/
def GivesOpen (bd : Nat) (m' : DM) (file en tn : Int) (fp : Nat → Prop) (w : World) (e : Ending) (w' : World) : Prop :=
  ∃ bl fd', e = .returned (.tuple #[.pointer (some ⟨bl, 0, none⟩), .int .i64 0]) ∧ w.heap.size ≤ bl ∧ LogIs w' bl bd m' file en tn fd' ∧ Opp fp (fun b => fd' b ∨ b = bl) w w'
set_option maxRecDepth 100000 in
set_option maxHeartbeats 1000000 in
theorem lopen_any {w : World} {bd : Nat} {m : DM} {fp : Nat → Prop} (hd : DiskIs w bd m fp) (hfit : Fit m) (hg : ErrType w) (file : Int) (h0 : 0 ≤ file) (h64 : file < 64) (xs : List (List UInt8)) (t : List UInt8) (hx : ∀ x ∈ xs, x.length ≤ 60000) (ht : firstL t = none) (hs : m.files file = recsN xs ++ t) :
    Calls Tryz.prog 7 #[.pointer (some ⟨bd, 0, none⟩), .int .i64 file] w (GivesOpen bd (m.opened file (recsN xs).length) file (recsN xs).length t.length fp w) := by
  have hlen : ((m.files file).length : Int) ≤ 16777216 := by have := len_le_tot m.files file h0 h64; have := hfit.files; have := hfit.hi; omega
  have HR := Lib.hid (read_any hd hfit file h0 h64)
  have HD := Lib.hid hd
  have HFIT := Lib.hid hfit
  have HG := Lib.hid hg
  have hsl : (m.files file).length = (recsN xs).length + t.length := by rw [hs]; simp
  have HSL := Lib.hid hsl
  have HLEN := Lib.hid hlen
  have hlI : ((m.files file).length : Int) - (recsN xs).length = t.length := by omega
  by_cases htn : t.length = 0
  · have hop : m.opened file (recsN xs).length = m := by unfold DM.opened; rw [if_pos (by omega)]
    rw [hop]
    clear hd hfit hg hop hsl hlen
    go_enter Tryz.func7, Tryz.ntmps7
    go_wp2_with fail
    refine HR.out.mono ?_
    rintro e w1 ⟨v, rfl, hv, hb1⟩
    obtain ⟨A, cap, rfl, hv'⟩ := id hv
    have HW := Lib.hid (whole_any xs t hx ht _ hs A cap _ (by have := HLEN.out; omega) w1 hv)
    have HB1 := Lib.hid hb1
    clear hv hv' hb1 hx ht hs
    generalize (m.files file).length = N at *
    generalize (recsN xs).length = R at *
    go_wp2_with (go_at_call 21; refine HW.out.mono ?_; rintro e w2 ⟨rfl, hb2⟩; have HB2 := Lib.hid (HB1.out.then_ hb2); clear hb2)
    have HB3 := Lib.hid (HB2.out.alloc (.cells #[.pointer (some ⟨bd, 0, none⟩), .int .i64 file, .int .i64 R, .int .i64 0] 65))
    go_ret2
    rw [htn]
    have hs2 := HB2.out.size
    refine ⟨w2.heap.size, fun b => fp b ∧ b < w.heap.size, rfl, hs2, ⟨World.alloc_heap_new _ _, fun h => by have := h.2; omega, fun b h => by have := h.2; simp; omega, HD.out.tight.bel HB3.out⟩, ?_⟩
    have hO := Opp.of_bel (fp := fp) HB3.out
    exact ⟨hO.os, hO.tape, hO.output, hO.size, hO.block, fun b h => h.elim (fun h => .inl h.1) (fun h => .inr (by omega))⟩
  · have hcut0 : (m.cut file (recsN xs).length).2 = 0 := by
      unfold DM.cut
      rw [if_neg (by omega), if_neg (by omega)]
    have hop : m.opened file (recsN xs).length = (m.cut file (recsN xs).length).1 := by unfold DM.opened; rw [if_neg (by omega)]
    rw [hop]
    have HCUT := Lib.hid hcut0
    have htp : 0 < t.length := by omega
    clear hd hfit hg hop hsl hlen hcut0
    go_enter Tryz.func7, Tryz.ntmps7
    go_wp2_with fail
    refine HR.out.mono ?_
    rintro e w1 ⟨v, rfl, hv, hb1⟩
    obtain ⟨A, cap, rfl, hv'⟩ := id hv
    have HW := Lib.hid (whole_any xs t hx ht _ hs A cap _ (by have := HLEN.out; omega) w1 hv)
    have HB1 := Lib.hid hb1
    clear hv hv' hb1 hx ht hs
    generalize (m.files file).length = N at *
    generalize (recsN xs).length = R at *
    generalize t.length = T at *
    have hTI : (T : Int) ≤ 16777216 := by have := HLEN.out; have := HSL.out; omega
    have hTp : (0 : Int) < T := by omega
    go_wp2_with (go_at_call 21; refine HW.out.mono ?_; rintro e w2 ⟨rfl, hb2⟩; have HB2 := Lib.hid (HB1.out.then_ hb2); clear hb2)
    obtain ⟨W, hW⟩ : ∃ W, W = w2.alloc (.cells #[.pointer (some ⟨bd, 0, none⟩), .int .i64 file, .int .i64 R, .int .i64 T] 65) := ⟨_, rfl⟩
    rw [← hW]
    have hs2 := HB2.out.size
    have hbW : Bel w W := by rw [hW]; exact HB2.out.alloc _
    have hszW : W.heap.size = w2.heap.size + 1 := by rw [hW]; simp
    have hbWd : Bel w W.drew := hbW.drew
    have hl0 : LogIs W.drew w2.heap.size bd m file R T (fun b => fp b ∧ b < w.heap.size) :=
      ⟨by have := World.alloc_heap_new w2 (.cells #[.pointer (some ⟨bd, 0, none⟩), .int .i64 file, .int .i64 R, .int .i64 T] 65); rw [hW]; exact this, fun h => by have := h.2; omega, fun b h => by have := h.2; show b < W.heap.size; omega, HD.out.tight.bel hbWd⟩
    have hcut := cutM_any hl0.disk HFIT.out (HG.out.bel hbWd) file R
    rw [HCUT.out] at hcut
    obtain ⟨k0, k1, k2, k3, kf⟩ := hl0.cells
    have hS0 : (fun V : World => V.cell? ⟨w2.heap.size, 0, none⟩ = some (.pointer (some ⟨bd, 0, none⟩)) ∧ V.cell? ⟨w2.heap.size, 2, none⟩ = some (.int .i64 R)) W.drew := ⟨k0, k2⟩
    have HL0 := Lib.hid hl0
    have HCU := Lib.hid hcut
    have HBW := Lib.hid hbWd
    have HSZ := Lib.hid hszW
    clear hl0 hcut hbW hbWd hW k1 k3 kf hszW
    go_region_held3 (fun V : World => V.cell? ⟨w2.heap.size, 0, none⟩ = some (.pointer (some ⟨bd, 0, none⟩)) ∧ V.cell? ⟨w2.heap.size, 2, none⟩ = some (.int .i64 R))
      (first | assumption | exact hS0 | exact ⟨hlg.cells.1, hlg.cells.2.2.1⟩)
      ((go_at_call 22; refine HCU.out.mono ?_; rintro e w3 ⟨rfl, fp3, hD, hO⟩; have hlg := HL0.out.op hD hO))
    have HLG := Lib.hid hlg
    have HO := Lib.hid hO
    clear hlg hO hD hS0 k0 k2
    go_wp2
    go_ret2
    refine ⟨w2.heap.size, _, rfl, hs2, HLG.out, ?_⟩
    have hB := HBW.out
    have h1 : Opp fp (fun b => (fp b ∧ b < w.heap.size) ∨ b = w2.heap.size) w W.drew := ⟨hB.os, hB.tape, hB.output, hB.size, fun k hk _ => hB.block k hk, fun b h => h.elim (fun h => .inl h.1) (fun h => .inr (by omega))⟩
    exact h1.trans (opp_log HO.out)
end Go.Proofs.YtiajggmnfaidjaaGreatDoor
