/-
  Texts behind the statement: Rn, Rp, Rl, Re, Rm, Rj.
-/
import Derived.Test.YtiajggmnfaidjaaGreatDoorLo
import Derived.Test.YtiajggmnfaidjaaGreatDoorLn
import Derived.Test.YtiajggmnfaidjaaGreatDoorRb
import Derived.Test.YtiajggmnfaidjaaGreatDoorRa
import Derived.Test.YtiajggmnfaidjaaGreatDoorLp
import Derived.Test.YtiajggmnfaidjaaGreatDoorRk
import Derived.Test.YtiajggmnfaidjaaGreatDoorRd2
import Derived.Test.YtiajggmnfaidjaaGreatDoorRi
set_option linter.unusedVariables false
set_option linter.unusedSimpArgs false
set_option linter.unusedVariables false
set_option linter.unusedSimpArgs false
namespace Go.Proofs.YtiajggmnfaidjaaGreatDoor
open Go.RowKit

set_option maxRecDepth 100000 in
set_option maxHeartbeats 1000000 in
theorem lappend_full {w : World} {bl bd : Nat} {m : DM} {file en tn : Int} {fd : Nat → Prop} (h : LogIs w bl bd m file en tn fd) (hfit : Fit m) (hg : ErrType w) (s : List UInt8) (A : Option Addr) (cap : Nat) (hs : s.length ≤ 60000) (hr : Reads w w.heap.size 1 A s.length (s.map bv))
    (hok : m.append file (recN s) = (m, 190)) : Calls Tryz.prog 36 #[.pointer (some ⟨bl, 0, none⟩), .slice A s.length cap] w (GivesLog bl bd m file en tn fd (.iface 121 (.agg #[.int .i64 en, .int .i64 190])) w) := by
  have HN := Lib.hid (lnone_any h)
  have HREC := Lib.hid (record_any s A cap hs w hr)
  have H := Lib.hid h
  have HG := Lib.hid hg
  have HFIT := Lib.hid hfit
  have HOK := Lib.hid hok
  have hsI : (s.length : Int) ≤ 60000 := by omega
  clear h hg hfit hok hr
  go_enter Tryz.func36, Tryz.ntmps36
  go_wp2_with (first | (go_at_call 38; refine HN.out.mono ?_; rintro e w' ⟨rfl, rfl⟩) | (go_at_call 13; refine HREC.out.mono ?_; rintro e w1 ⟨A1, c1, rfl, hown, hb1⟩))
  have h1 := H.out.bel hb1
  obtain ⟨k0, k1, k2, k3, kf⟩ := h1.cells
  have hS0 : (fun V : World => V.cell? ⟨bl, 0, none⟩ = some (.pointer (some ⟨bd, 0, none⟩)) ∧ V.cell? ⟨bl, 1, none⟩ = some (.int .i64 file)) w1.drew := ⟨k0, k1⟩
  have hbd : Bel w1 w1.drew := (Bel.refl w1).drew
  have h1d := h1.bel hbd
  have happ := append_any h1d.disk HFIT.out (HG.out.bel (hb1.then_ hbd)) file A1 (s.length + 8) c1 (recN s) (recN_length s).symm (fun hA => by subst hA; have := hown.form (by omega); obtain ⟨g, cp, hv, _⟩ := this; cases hv) (by rw [recN_length]; omega) (by have := Reads.of_own hown; rw [recN_length]; exact this.drew)
  rw [HOK.out] at happ
  have HAPP := Lib.hid happ
  have H1D := Lib.hid h1d
  have HB1 := Lib.hid (hb1.then_ hbd)
  clear happ h1d h1 hb1 hbd hown
  have hOb : Bel w w1.drew := HB1.out
  have HOB := Lib.hid hOb
  clear hOb
  go_wp2
  go_region_held3 (fun V : World => V.cell? ⟨bl, 0, none⟩ = some (.pointer (some ⟨bd, 0, none⟩)) ∧ V.cell? ⟨bl, 1, none⟩ = some (.int .i64 file))
    (first | assumption | exact hS0 | exact ⟨hlg.cells.1, hlg.cells.2.1⟩)
    ((go_at_call 58; refine HAPP.out.mono ?_; rintro e w2 ⟨rfl, fp2, hD, hO⟩; have hlg := H1D.out.op hD hO))
  obtain ⟨q0, q1, q2, q3, qf⟩ := hlg.cells
  have HLG := Lib.hid hlg
  have HO := Lib.hid hO
  clear hlg hO hD hS0 qf k0 k1 k2 k3 kf
  go_wp2
  go_ret
  exact ⟨rfl, _, HLG.out, (Opp.of_bel HOB.out).trans (opp_log HO.out)⟩
theorem ErrType.opp {w w' : World} {fp fp' : Nat → Prop} (h : ErrType w) (hO : Opp fp fp' w w') (hn : ¬ fp 0) : ErrType w' := by
  have hlt := World.block_lt_of_cell? w ⟨0, 0, none⟩ h
  exact (World.cell?_of_block (a := ⟨0, 0, none⟩) (hO.block 0 hlt hn)).trans h
theorem lAppend_full {w : World} {bl bd : Nat} {m : DM} {file en tn : Int} {fd : Nat → Prop} (h : LogIs w bl bd m file en tn fd) (hfit : Fit m) (hg : ErrType w) (hn0 : ¬ (fd 0 ∨ 0 = bl)) (s : List UInt8) (A : Option Addr) (cap : Nat) (hs : s.length ≤ 60000) (hr : Reads w w.heap.size 1 A s.length (s.map bv))
    (hok : m.append file (recN s) = (m, 190)) : Calls Tryz.prog 14 #[.pointer (some ⟨bl, 0, none⟩), .slice A s.length cap] w (GivesLog bl bd m file en tn fd (.tuple #[.int .i64 0, .int .i64 190]) w) := by
  have HE := Lib.hid (lend_any h)
  have HA := Lib.hid (lappend_full h hfit hg s A cap hs hr hok)
  have HG := Lib.hid hg
  have HN0 := Lib.hid hn0
  clear h hfit hg hr hok hn0
  generalize s.length = n at *
  go_enter Tryz.func14, Tryz.ntmps14
  go_wp2_with (first | (go_at_call 16; refine HE.out.mono ?_; rintro e w' ⟨rfl, rfl⟩) | (go_at_call 36; refine HA.out.mono ?_; rintro e w1 ⟨rfl, fd', hlg, hO⟩; have HLG := Lib.hid hlg; have HO := Lib.hid hO; clear hlg hO) | (go_at_call 37; refine (lnumber_fault _ _ _ (HG.out.opp HO.out HN0.out)).mono ?_; rintro e w2 ⟨rfl, hb2⟩))
  go_ret2
  exact ⟨rfl, fd', HLG.out.bel hb2, HO.out.trans (Opp.of_bel hb2)⟩
theorem lopen_out {w : World} {bd : Nat} {m : DM} {fp : Nat → Prop} (hd : DiskIs w bd m fp) (hfit : Fit m) (hg : ErrType w) (file : Int) (hf : file < 0 ∨ 64 ≤ file) :
    Calls Tryz.prog 7 #[.pointer (some ⟨bd, 0, none⟩), .int .i64 file] w fun e w' => e = .returned (.tuple #[.pointer none, .int .i64 4]) ∧ Bel w w' := by
  have HR := Lib.hid (read_out hd hfit hg file hf)
  clear hd hfit hg hf
  go_enter Tryz.func7, Tryz.ntmps7
  go_wp2_with fail
  refine HR.out.mono ?_
  rintro e w1 ⟨rfl, hb⟩
  have HB := Lib.hid hb
  clear hb HR
  go_wp2
  go_ret2
  exact ⟨rfl, HB.out⟩
/-! Plain: what stands on both sides between two calls. -/
structure Stands (m : DM) (file : Int) (xs : List (List UInt8)) (k : Nat) : Prop where
  fit : RFit m
  lo : 0 ≤ file
  hi : file < 64
  few : m.loose.length ≤ k
  small : ∀ x ∈ xs, x.length ≤ 60000
  is : m.files file = recsN xs
theorem Stands.fit' {m : DM} {file : Int} {xs : List (List UInt8)} {k : Nat} (h : Stands m file xs k) : Fit m := h.fit.fit
theorem Stands.len {m : DM} {file : Int} {xs : List (List UInt8)} {k : Nat} (h : Stands m file xs k) : (recsN xs).length ≤ 16777216 := by
  have h1 := len_le_tot m.files file h.lo h.hi
  have h2 := h.fit'.files
  have h3 := h.fit.hi
  rw [h.is] at h1
  omega
theorem Stands.sync {m : DM} {file : Int} {xs : List (List UInt8)} {k : Nat} (h : Stands m file xs k) : Stands m.sync file xs k := ⟨h.fit.sync, h.lo, h.hi, by show 0 ≤ k; omega, h.small, h.is⟩
/-- An Append: there is room for it, or there is none. -/
theorem Stands.append {m : DM} {file : Int} {xs : List (List UInt8)} {k : Nat} (h : Stands m file xs k) (hk : k < 1000000) (s : List UInt8) (hs : s.length ≤ 60000) :
    ((m.append file (recN s)).2 = 0 ∧ Stands (m.append file (recN s)).1 file (xs ++ [s]) (k + 1)) ∨ m.append file (recN s) = (m, 190) := by
  have hf := h.fit.append file (recN s) (by have := h.few; omega)
  have hlo := h.lo
  have hhi := h.hi
  have hfew := h.few
  have his := h.is
  revert hf
  unfold DM.append
  rw [if_neg (by omega)]
  split
  · intro _; exact .inr rfl
  · intro hf
    refine .inl ⟨rfl, hf, hlo, hhi, by simp; omega, fun x hx => ?_, ?_⟩
    · rcases List.mem_append.1 hx with hx | hx
      · exact h.small x hx
      · rw [List.mem_singleton.1 hx]; exact hs
    · show doneF m.files _ file = _
      unfold doneF setF
      rw [if_pos rfl]
      show m.files file ++ recN s = _
      rw [his]
      simp [recsN]
theorem recs_snoc (xs : List (List UInt8)) (s : List UInt8) : (recsN (xs ++ [s])).length = (recsN xs).length + (s.length + 8) := by
  have : recsN (xs ++ [s]) = recsN xs ++ recN s := by simp [recsN]
  rw [this, List.length_append, recN_length]
theorem opened_fit {m : DM} (h : RFit m) (hn : m.loose.length < 1000000) (file : Int) (n : Nat) : RFit (m.opened file n) := by
  unfold DM.opened
  split
  · exact h
  · exact h.cut file n hn
theorem opened_file {m : DM} (file : Int) (h0 : 0 ≤ file) (h64 : file < 64) (xs : List (List UInt8)) (t : List UInt8) (hs : m.files file = recsN xs ++ t) : (m.opened file (recsN xs).length).files file = recsN xs := by
  unfold DM.opened
  split
  · rename_i h
    have hl := congrArg List.length hs
    rw [List.length_append] at hl
    have ht : t = [] := List.eq_nil_of_length_eq_zero (by omega)
    rw [hs, ht, List.append_nil]
  · unfold DM.cut
    have hl := congrArg List.length hs
    rw [List.length_append] at hl
    rw [if_neg (by omega), if_neg (by omega)]
    show doneF m.files _ file = _
    unfold doneF setF
    simp [Th.does, hs]
theorem opened_loose (m : DM) (file : Int) (n : Nat) : (m.opened file n).loose.length ≤ m.loose.length + 1 := by
  unfold DM.opened
  split
  · omega
  · unfold DM.cut
    split
    · show m.loose.length ≤ _; omega
    · split
      · show m.loose.length ≤ _; omega
      · show (m.loose ++ [_]).length ≤ _; simp
/-- A file that is opened, whatever it holds. -/
theorem Stands.opened {m : DM} (hf : RFit m) (file : Int) (h0 : 0 ≤ file) (h64 : file < 64) (k : Nat) (hk : m.loose.length ≤ k) (hk6 : k < 1000000) : ∃ xs t, (∀ x ∈ xs, x.length ≤ 60000) ∧ firstL t = none ∧ m.files file = recsN xs ++ t ∧ Stands (m.opened file (recsN xs).length) file xs (k + 1) := by
  obtain ⟨xs, t, h1, h2, h3⟩ := parse _ (m.files file) (Nat.le_refl _)
  exact ⟨xs, t, h2, h3, h1, opened_fit hf (by omega) _ _, h0, h64, by have := opened_loose m file (recsN xs).length; omega, h2, opened_file file h0 h64 xs t h1⟩
theorem crash_loose (m : DM) (keep torn : Int) : (m.crash keep torn).loose.length = 0 := rfl
/-- What a crash asks. -/
theorem RFit.crash_len {m : DM} (h : RFit m) (keep torn : Int) (hk0 : 0 ≤ keep) (k : Nat) (x : Th) (hx : m.loose[k]? = some x) : ((crashTo m keep torn k) x.file).length + x.bytes.length ≤ 1000000000 := by
  have hm := List.mem_of_getElem? hx
  have hb := h.bytes x hm
  have hfile := h.file x hm
  have hlt := (List.getElem?_eq_some_iff.1 hx).1
  have hlen : ((crashTo m keep torn k) x.file).length ≤ 16777216 := by
    by_cases hke : (k : Int) ≤ keep
    · rw [crashTo_upTo m keep torn k (by omega) hke]
      exact h.len k _ hfile.1 hfile.2
    · have h1 := crashTo_stay m keep torn hk0 (k - keep.toNat - 1) (by omega)
      have h2 := crashTo_stay m keep torn hk0 (m.loose.length - keep.toNat - 1) (by omega)
      rw [show keep.toNat + 1 + (k - keep.toNat - 1) = k by omega] at h1
      rw [show keep.toNat + 1 + (m.loose.length - keep.toNat - 1) = m.loose.length by omega] at h2
      rw [h1, ← h2]
      have h3 := (h.crash keep torn hk0).len 0 x.file hfile.1 hfile.2
      exact h3
  omega
end Go.Proofs.YtiajggmnfaidjaaGreatDoor
set_option linter.unusedVariables false
set_option linter.unusedSimpArgs false
set_option linter.unusedVariables false
set_option linter.unusedSimpArgs false
namespace Go.Proofs.YtiajggmnfaidjaaGreatDoor
open Go.RowKit

theorem results_row3 {fn : Func} {p q r : Tmp} (h : fn.results = #[.cell p 38, .tmp q, .tmp r]) (tmps : Array Value) (w : World) (g : Nat) (cs : Array Value) (k l : Value) (hp : tmps.getD p undef = .pointer (some ⟨g, 0, none⟩)) (hq : tmps.getD q undef = k) (hr : tmps.getD r undef = l)
    (hg : w.heap[g]? = some (.cells cs 38 (0, 0))) (hi : (Tryz.prog.info? 38).map (·.size) = some cs.size) : (results fn tmps).run Tryz.prog w = .ok (.tuple #[.agg cs, k, l]) w := by
  have hp' : tmps[p]?.getD undef = .pointer (some ⟨g, 0, none⟩) := by simpa using hp
  have hq' : tmps[q]?.getD undef = k := by simpa using hq
  have hr' : tmps[r]?.getD undef = l := by simpa using hr
  simp [results, h, hp', hq', hr', asAddr, run_loadVar_row (P := Tryz.prog) w g 38 38 cs (0, 0) _ hg Tryz.underlying38 rfl hi]
/-- Two blocks, a log's and the result's. -/
noncomputable def twoM (w : World) (cs : Array Value) : World := (w.alloc (.cells cs 38)).alloc (.cells Tryz.zeroCells38 38)
theorem twoM_bel (w : World) (cs : Array Value) : Bel w (twoM w cs) := ((Bel.refl w).alloc _).alloc _
theorem twoM_fst (w : World) (cs : Array Value) : (twoM w cs).heap[w.heap.size]? = some (.cells cs 38 (0, 0)) := (Bel.refl (w.alloc (.cells cs 38))).alloc (.cells Tryz.zeroCells38 38) |>.deferred (World.alloc_heap_new w _)
theorem twoM_snd (w : World) (cs : Array Value) : (twoM w cs).heap[w.heap.size + 1]? = some (.cells Tryz.zeroCells38 38 (0, 0)) := by
  have := World.alloc_heap_new (w.alloc (.cells cs 38)) (.cells Tryz.zeroCells38 38)
  rwa [World.size_alloc] at this
theorem RLog.info {w : World} {cs : Array Value} {m : DM} {file tn : Int} (h : RLog w cs m file tn) : (Tryz.prog.info? 38).map (·.size) = some cs.size := by
  obtain ⟨ds, hd, rfl⟩ := h
  exact infoL ds hd.size _ _
theorem RLog.zsize {w : World} {cs : Array Value} {m : DM} {file tn : Int} (h : RLog w cs m file tn) : Tryz.zeroCells38.size = cs.size := by
  obtain ⟨ds, hd, rfl⟩ := h
  exact zeroL ds hd.size _ _
theorem RLog.one {w : World} {cs : Array Value} {m : DM} {file tn : Int} (h : RLog w cs m file tn) : cs.all (·.oneCell') = true := by
  obtain ⟨ds, hd, rfl⟩ := h
  exact oneL ds hd.one _ _
/-- A log whose row is stored into another's zero cells. -/
theorem RLog.stored {V : World} {cs : Array Value} {m : DM} {file tn : Int} (h : RLog V cs m file tn) {b : Nat} (hz : V.heap[b]? = some (.cells Tryz.zeroCells38 38 (0, 0))) (cs' : Array Value) : RLog (V.setRow b cs') cs m file tn := by
  obtain ⟨ds, hd, e⟩ := h
  obtain ⟨k1, k2⟩ := setRow_else V b cs'
  exact ⟨ds, hd.apart hz zeroL_nobool k1 k2, e⟩
def GivesRA (m' : DM) (file tn at_ no : Int) (w : World) (cs0 : Array Value) (e : Ending) (w' : World) : Prop := ∃ cs, e = .returned (.tuple #[.agg cs, .int .i64 at_, .int .i64 no]) ∧ RLog w' cs m' file tn ∧ Bel w w' ∧ FreshR w cs0 cs
set_option maxRecDepth 100000 in
set_option maxHeartbeats 2000000 in
theorem r10Append_full {w : World} {cs : Array Value} {m : DM} {file tn : Int} (h : RLog w cs m file tn) (hfit : RFit m) (hn : m.loose.length < 1000000) (h0 : 0 ≤ file) (h64 : file < 64) (s : List UInt8) (hs : s.length ≤ 60000) (hok : m.append file (recN s) = (m, 190)) :
    Calls Tryz.prog 26 #[.agg cs, .string ⟨s.toArray⟩] w (GivesRA m file tn 0 190 w cs) := by
  have H := Lib.hid h
  have HSZ := Lib.hid h.info
  have HZS := Lib.hid h.zsize
  have HONE := Lib.hid h.one
  have HA := Lib.hid (twoM_fst w cs)
  have HB := Lib.hid (twoM_snd w cs)
  have HTW := Lib.hid (twoM_bel w cs)
  have HREC := Lib.hid (fun V => r10Record_any s hs V)
  have HEND := Lib.hid (fun V (hV : Bel w V) => r10End_any (h.bel hV) hfit h0 h64)
  obtain ⟨ds, hd, hcs⟩ := id h
  have HCS := Lib.hid hcs
  have HDS := Lib.hid hd
  have HDI := Lib.hid hd.info
  have HAP := Lib.hid (fun V (hV : Bel w V) => rdAppend_any (hd.bel hV) hfit hn file (recN s) (by rw [recN_length]; omega))
  rw [hok] at HAP
  clear h hfit hd hcs hok
  go_enter Tryz.func26, Tryz.ntmps26
  go_wp2_with (first
    | (go_at_call 53; refine (HREC.out _).mono ?_; rintro e w1 ⟨rfl, hb1⟩; have HB1 := Lib.hid (HTW.out.then_ hb1); have HA1 := Lib.hid (Bel.deferred hb1 HA.out); have HBB1 := Lib.hid (Bel.deferred hb1 HB.out); clear hb1)
    | (refine wpList_load_row rfl 38 (.tmp 2) rfl w.heap.size rfl _ cs (0, 0) _ HA1.out Tryz.underlying38 rfl HSZ.out ?_)
    | (go_at_call 32; refine (HEND.out _ HB1.out).mono ?_; rintro e w2 ⟨rfl, hb2⟩
       have HB2 := Lib.hid (HB1.out.then_ hb2)
       have HA2 := Lib.hid (hb2.deferred HA1.out)
       have HBB2 := Lib.hid (hb2.deferred HBB1.out)
       have HL2 : Hid (LaidL w2 w.heap.size ds file tn) := LaidL.of HDS.out.size (by rw [← HCS.out]; exact HA2.out)
       have c66 := HL2.out.file
       clear hb2)
    | (refine wpList_load_arr rfl 36 (.tmp 23) rfl w.heap.size 0 rfl ds _ HL2.out.disk Tryz.underlying36 rfl HDI.out ?_)
    | (go_at_call 54; refine (HAP.out _ HB2.out).mono ?_; rintro e w3 ⟨ds3, rfl, hd3, hb3⟩
       have HB3 := Lib.hid (HB2.out.then_ hb3)
       have HA3 := Lib.hid (hb3.deferred HA2.out)
       have HBB3 := Lib.hid (hb3.deferred HBB2.out)
       have HI3 := Lib.hid hd3.info
       have HZ3 := Lib.hid hd3.zsize
       have HO3 := Lib.hid hd3.one
       clear hd3 hb3)
    | (refine wpList_store_row rfl 36 (.tmp 10) (.tmp 29) rfl w3.heap.size ds3 rfl rfl _ _ (World.alloc_heap_new _ _) HI3.out HZ3.out HO3.out ?_
       rw [World.setRow_alloc_new]
       have hb4 : Bel w3 (w3.alloc (.cells ds3 36)) := (Bel.refl w3).alloc _
       have HB4 := Lib.hid (HB3.out.then_ hb4)
       have HA4 := Lib.hid (hb4.deferred HA3.out)
       have HBB4 := Lib.hid (hb4.deferred HBB3.out)
       clear hb4)
    | (refine wpList_load_row rfl 38 (.tmp 2) rfl w.heap.size rfl _ cs (0, 0) _ HA4.out Tryz.underlying38 rfl HSZ.out ?_)
    | (refine wpList_store_row rfl 38 (.tmp 4) (.tmp 33) rfl (w.heap.size + 1) cs rfl rfl _ _ HBB4.out HSZ.out HZS.out HONE.out ?_))
  have hbe : Bel w ((w3.alloc (.cells ds3 36)).setRow (w.heap.size + 1) cs) := below_setRow HB4.out (by omega) cs
  exact bodyPost_ret (v := .tuple #[.agg cs, .int .i64 0, .int .i64 190]) (results_row3 rfl _ _ (w.heap.size + 1) cs _ _ rfl rfl rfl (setRow_heap _ _ _ _ _ _ HBB4.out) HSZ.out) rfl ⟨cs, rfl, H.out.bel hbe, hbe, .inl rfl⟩
set_option maxRecDepth 100000 in
set_option maxHeartbeats 2000000 in
theorem r10Append_ok {w : World} {cs : Array Value} {m : DM} {file tn : Int} (h : RLog w cs m file tn) (hfit : RFit m) (hn : m.loose.length < 1000000) (h0 : 0 ≤ file) (h64 : file < 64) (s : List UInt8) (hs : s.length ≤ 60000) (hok : (m.append file (recN s)).2 = 0) :
    Calls Tryz.prog 26 #[.agg cs, .string ⟨s.toArray⟩] w (GivesRA (m.append file (recN s)).1 file tn (m.files file).length 0 w cs) := by
  have H := Lib.hid h
  have HSZ := Lib.hid h.info
  have HZS := Lib.hid h.zsize
  have HONE := Lib.hid h.one
  have HNB := Lib.hid h.nobool
  have HA := Lib.hid (twoM_fst w cs)
  have HB := Lib.hid (twoM_snd w cs)
  have HTW := Lib.hid (twoM_bel w cs)
  have HREC := Lib.hid (fun V => r10Record_any s hs V)
  have HEND := Lib.hid (fun V (hV : Bel w V) => r10End_any (h.bel hV) hfit h0 h64)
  obtain ⟨ds, hd, hcs⟩ := id h
  have HCS := Lib.hid hcs
  have HDS := Lib.hid hd
  have HDI := Lib.hid hd.info
  have HAP := Lib.hid (fun V (hV : Bel w V) => rdAppend_fresh (hd.bel hV) hfit hn file (recN s) (by rw [recN_length]; omega))
  rw [hok] at HAP
  generalize (m.append file (recN s)).1 = M at *
  generalize (m.files file).length = EN at *
  clear h hfit hd hcs hok
  go_enter Tryz.func26, Tryz.ntmps26
  go_wp2_with (first
    | (go_at_call 53; refine (HREC.out _).mono ?_; rintro e w1 ⟨rfl, hb1⟩; have HB1 := Lib.hid (HTW.out.then_ hb1); have HA1 := Lib.hid (Bel.deferred hb1 HA.out); have HBB1 := Lib.hid (Bel.deferred hb1 HB.out); clear hb1)
    | (refine wpList_load_row rfl 38 (.tmp 2) rfl w.heap.size rfl _ cs (0, 0) _ HA1.out Tryz.underlying38 rfl HSZ.out ?_)
    | (go_at_call 32; refine (HEND.out _ HB1.out).mono ?_; rintro e w2 ⟨rfl, hb2⟩
       have HB2 := Lib.hid (HB1.out.then_ hb2)
       have HA2 := Lib.hid (hb2.deferred HA1.out)
       have HBB2 := Lib.hid (hb2.deferred HBB1.out)
       have HL2 : Hid (LaidL w2 w.heap.size ds file tn) := LaidL.of HDS.out.size (by rw [← HCS.out]; exact HA2.out)
       have c66 := HL2.out.file
       clear hb2)
    | (refine wpList_load_arr rfl 36 (.tmp 23) rfl w.heap.size 0 rfl ds _ HL2.out.disk Tryz.underlying36 rfl HDI.out ?_)
    | (go_at_call 54; refine (HAP.out _ HB2.out).mono ?_; rintro e w3 ⟨ds3, rfl, hd3, hb3, hfr3⟩
       have HB3 := Lib.hid (HB2.out.then_ hb3)
       have HA3 := Lib.hid (hb3.deferred HA2.out)
       have HBB3 := Lib.hid (hb3.deferred HBB2.out)
       have HD3 := Lib.hid hd3
       have HF3 := Lib.hid hfr3
       have HI3 := Lib.hid hd3.info
       have HZ3 := Lib.hid hd3.zsize
       have HO3 := Lib.hid hd3.one
       clear hd3 hb3 hfr3)
    | (refine wpList_store_row rfl 36 (.tmp 10) (.tmp 29) rfl w3.heap.size ds3 rfl rfl _ _ (World.alloc_heap_new _ _) HI3.out HZ3.out HO3.out ?_
       rw [World.setRow_alloc_new]
       obtain ⟨W4, hW4⟩ : ∃ W4, W4 = w3.alloc (.cells ds3 36) := ⟨_, rfl⟩
       rw [← hW4]
       have hb4 : Bel w3 W4 := by rw [hW4]; exact (Bel.refl w3).alloc _
       have HB4 := Lib.hid (HB3.out.then_ hb4)
       have HA4 := Lib.hid (hb4.deferred HA3.out)
       have HBB4 := Lib.hid (hb4.deferred HBB3.out)
       have HD4 := Lib.hid (HD3.out.bel hb4)
       have HE4 : Hid (W4.heap[w3.heap.size]? = some (.cells ds3 36 (0, 0))) := by show _ = _; rw [hW4]; exact World.alloc_heap_new _ _
       have HT4 : Hid (W4.there w.heap.size 0 ds3.size) := there_blk HA4.out _ (by rw [HD3.out.size, HCS.out, Array.size_append, HDS.out.size]; omega)
       have HL4 : Hid (LaidL W4 w.heap.size ds file tn) := LaidL.of HDS.out.size (by rw [← HCS.out]; exact HA4.out)
       clear hb4 hW4)
    | (refine wpList_load_row rfl 36 (.tmp 10) rfl w3.heap.size rfl _ ds3 (0, 0) _ HE4.out Tryz.underlying36 rfl HI3.out ?_)
    | (refine wpList_store_mid rfl 36 (.tmp 36) (.tmp 35) rfl w.heap.size 0 ds3 rfl rfl HT4.out HI3.out HO3.out ?_
       obtain ⟨W5, hW5⟩ : ∃ W5, W5 = W4.setCells w.heap.size 0 ds3.toList := ⟨_, rfl⟩
       rw [← hW5]
       have hb5 : Bel w W5 := by rw [hW5]; exact below_setCells (Nat.le_refl _) _ _ _ HB4.out
       have HB5 := Lib.hid hb5
       have HL5 : Hid (LaidL W5 w.heap.size ds3 file tn) := by
         rw [hW5]
         refine ⟨World.rangeAt_setCells_same _ _ _ _ (by simpa using HT4.out), ?_, ?_⟩
         · rw [World.cell?_setCells_out _ _ _ _ _ (fun _ _ => .inr (by simp [HD3.out.size]))]
           exact HL4.out.file
         · rw [World.cell?_setCells_out _ _ _ _ _ (fun _ _ => .inr (by simp [HD3.out.size]))]
           exact HL4.out.torn
       obtain ⟨k1, k2⟩ := setCells_else w.heap.size ds3.toList 0 W4
       rw [← hW5] at k1 k2
       have HBB5 : Hid (W5.heap[w.heap.size + 1]? = some (.cells Tryz.zeroCells38 38 (0, 0))) := (k1 _ (by omega)).trans HBB4.out
       have HD5 : Hid (RDis W5 ds3 M) := HD4.out.apart HA4.out HNB.out k1 k2
       clear hb5 hW5 k1 k2
       have HI5 : Hid ((Tryz.prog.info? 38).map (·.size) = some (ds3 ++ (#[.int .i64 file, .int .i64 tn] : Array Value)).size) := infoL ds3 HD3.out.size _ _
       have HZ5 : Hid (Tryz.zeroCells38.size = (ds3 ++ (#[.int .i64 file, .int .i64 tn] : Array Value)).size) := zeroL ds3 HD3.out.size _ _
       have HO5 := Lib.hid (oneL ds3 HO3.out file tn)
       have HR5 : Hid (W5.rangeAt w.heap.size 0 (ds3 ++ (#[.int .i64 file, .int .i64 tn] : Array Value)).toList) := HL5.out.whole HD3.out.size
       have HF5 : Hid (FreshR w cs (ds3 ++ (#[.int .i64 file, .int .i64 tn] : Array Value))) := by
         have e65 : (ds3 ++ (#[.int .i64 file, .int .i64 tn] : Array Value))[65]? = ds3[65]? := Array.getElem?_append_left (by rw [HD3.out.size]; omega)
         have h1 := HB2.out.size
         rcases HF3.out with h | ⟨g, off, n, c, h, hg⟩
         · exact .inl (e65.trans (h.trans (by rw [HCS.out, Array.getElem?_append_left (by rw [HDS.out.size]; omega)])))
         · exact .inr ⟨g, off, n, c, e65.trans h, by omega⟩
       have HE5 : Hid (RLog W5 (ds3 ++ (#[.int .i64 file, .int .i64 tn] : Array Value)) M file tn) := ⟨ds3, HD5.out, rfl⟩
       generalize ds3 ++ (#[.int .i64 file, .int .i64 tn] : Array Value) = cs5 at *)
    | (refine wpList_load_arr rfl 38 (.tmp 2) rfl w.heap.size 0 rfl cs5 _ HR5.out Tryz.underlying38 rfl HI5.out ?_)
    | (refine wpList_store_row rfl 38 (.tmp 4) (.tmp 37) rfl (w.heap.size + 1) cs5 rfl rfl _ _ HBB5.out HI5.out HZ5.out HO5.out ?_))
  have hbe : Bel w (W5.setRow (w.heap.size + 1) cs5) := below_setRow HB5.out (by omega) cs5
  exact bodyPost_ret (v := .tuple #[.agg cs5, .int .i64 EN, .int .i64 0]) (results_row3 rfl _ _ (w.heap.size + 1) cs5 _ _ rfl rfl rfl (setRow_heap _ _ _ _ _ _ HBB5.out) HI5.out) rfl ⟨cs5, rfl, HE5.out.stored HBB5.out cs5, hbe, HF5.out⟩
end Go.Proofs.YtiajggmnfaidjaaGreatDoor
set_option linter.unusedVariables false
set_option linter.unusedSimpArgs false
set_option linter.unusedVariables false
set_option linter.unusedSimpArgs false
namespace Go.Proofs.YtiajggmnfaidjaaGreatDoor
open Go.RowKit

/-- What a crash leaves, cell for cell (what is torn keeps its number). -/
def DM.left2 (m : DM) (keep torn : Int) : List Th :=
  m.loose.take keep.toNat ++ match m.loose[keep.toNat]? with
    | some x => if x.cuts then [] else [⟨x.file, x.bytes.take torn.toNat, x.many, false⟩]
    | none => []
theorem left2_fold (m : DM) (keep torn : Int) (f : Int → List UInt8) : (m.left2 keep torn).foldl doneF f = (m.left keep torn).foldl doneF f := by
  unfold DM.left2 DM.left
  rw [List.foldl_append, List.foldl_append]
  cases hx : m.loose[keep.toNat]? with
  | none => rfl
  | some y =>
    dsimp only
    cases hc : y.cuts <;> rfl
/-- The disk behind a crash, ahead of the sync. -/
def DM.cutDown (m : DM) (keep torn : Int) : DM := { m with loose := m.left2 keep torn, files := (m.left2 keep torn).foldl doneF m.synced }
theorem cutDown_sync (m : DM) (keep torn : Int) (hk0 : 0 ≤ keep) : (m.cutDown keep torn).sync = m.crash keep torn := by
  unfold DM.cutDown DM.crash DM.sync
  rw [crash_left m keep torn hk0, left2_fold]
theorem left_mem {m : DM} {keep torn : Int} {x : Th} (h : x ∈ m.left2 keep torn) : x ∈ m.loose ∨ ∃ y ∈ m.loose, x = ⟨y.file, y.bytes.take torn.toNat, y.many, false⟩ := by
  unfold DM.left2 at h
  rcases List.mem_append.1 h with h | h
  · exact .inl (List.mem_of_mem_take h)
  · cases hx : m.loose[keep.toNat]? with
    | none => rw [hx] at h; cases h
    | some y =>
      rw [hx] at h
      dsimp only at h
      cases hc : y.cuts with
      | true => rw [hc] at h; simp at h
      | false => rw [hc] at h; simp at h; exact .inr ⟨y, List.mem_of_getElem? hx, h⟩
theorem left_len (m : DM) (keep torn : Int) : (m.left2 keep torn).length ≤ m.loose.length ∧ (m.left2 keep torn).length ≤ keep.toNat + 1 := by
  unfold DM.left2
  rw [List.length_append, List.length_take]
  cases hx : m.loose[keep.toNat]? with
  | none => simp; omega
  | some y =>
    have := (List.getElem?_eq_some_iff.1 hx).1
    dsimp only
    cases hc : y.cuts <;> simp <;> omega
theorem left_take (m : DM) (keep torn : Int) (k : Nat) (hk : k ≤ keep.toNat) : (m.left2 keep torn).take k = m.loose.take k := by
  unfold DM.left2
  by_cases hn : keep.toNat ≤ m.loose.length
  · rw [List.take_append_of_le_length (by rw [List.length_take]; omega), List.take_take, Nat.min_eq_left hk]
  · rw [List.getElem?_eq_none (by omega)]
    simp only [List.append_nil]
    rw [List.take_take, Nat.min_eq_left hk]
theorem RFit.left {m : DM} (h : RFit m) (keep torn : Int) (hk0 : 0 ≤ keep) : RFit (m.cutDown keep torn) := by
  have hl := left_len m keep torn
  refine ⟨h.lo, h.hi, Nat.le_trans hl.1 h.few, fun x hx => ?_, fun x hx => ?_, fun x hx => ?_, fun k => ?_, ?_⟩
  · rcases left_mem hx with hx | ⟨y, hy, rfl⟩
    · exact h.file x hx
    · exact h.file y hy
  · rcases left_mem hx with hx | ⟨y, hy, rfl⟩
    · exact h.many x hx
    · exact h.many y hy
  · rcases left_mem hx with hx | ⟨y, hy, rfl⟩
    · exact h.bytes x hx
    · show (y.bytes.take torn.toNat).length ≤ _
      rw [List.length_take]
      have := h.bytes y hy
      omega
  · show tot (((m.left2 keep torn).take k).foldl doneF m.synced) ≤ m.room
    by_cases hk : k ≤ keep.toNat
    · rw [left_take m keep torn k hk]
      exact h.tots k
    · rw [List.take_of_length_le (by omega), left2_fold, ← crash_left m keep torn hk0]
      exact (h.crash keep torn hk0).tots 0
  · show (m.left2 keep torn).foldl doneF m.synced = ((m.left2 keep torn).take (m.left2 keep torn).length).foldl doneF m.synced
    rw [List.take_length]
theorem rths_take (l : List Th) (k : Nat) : ∃ r, rths l = rths (l.take k) ++ r := ⟨rths (l.drop k), by unfold rths; rw [← List.flatMap_append, List.take_append_drop]⟩
theorem RThs.take {w : World} {A : Option Addr} {l : List Th} (h : RThs w A l) (k : Nat) : RThs w A (l.take k) := fun hn => by
  have hl : 0 < l.length := by rw [List.length_take] at hn; omega
  obtain ⟨g, off, e, hg, hc⟩ := h hl
  obtain ⟨r, hr⟩ := rths_take l k
  exact ⟨g, off, e, hg, fun j u hu => hc j u (by rw [hr, List.getElem?_append_left (List.getElem?_eq_some_iff.1 hu).1]; exact hu)⟩
end Go.Proofs.YtiajggmnfaidjaaGreatDoor
set_option linter.unusedVariables false
set_option linter.unusedSimpArgs false
set_option linter.unusedVariables false
set_option linter.unusedSimpArgs false
namespace Go.Proofs.YtiajggmnfaidjaaGreatDoor
open Go.RowKit

/-- Three blocks: the disk's, the result's, the files'. -/
structure Three (w wr : World) (cs : Array Value) (m : DM) (k : Nat) (c : Array Value) : Prop where
  bel : Bel w wr
  fst : wr.heap[w.heap.size]? = some (.cells cs 36 (0, 0))
  snd : wr.heap[w.heap.size + 1]? = some (.cells Tryz.zeroCells36 36 (0, 0))
  thd : wr.heap[w.heap.size + 1 + 1]? = some (.cells c 33 (0, 0))
  size : c.size = 64
  done : ∀ j : Nat, j < k → c[j]? = some (.string ⟨(m.files j).toArray⟩)
theorem three_start (w : World) (cs : Array Value) (m : DM) (Z : Array Value) (hZ : Z.size = 64) : Three w (((w.alloc (.cells cs 36)).alloc (.cells Tryz.zeroCells36 36)).alloc (.cells Z 33)) cs m 0 Z := by
  have hb : Bel (two w cs) ((two w cs).alloc (.cells Z 33)) := (Bel.refl _).alloc _
  refine ⟨(two_bel w cs).then_ hb, hb.deferred (two_fst w cs), hb.deferred (two_snd w cs), ?_, hZ, fun j hj => absurd hj (by omega)⟩
  have := World.alloc_heap_new (two w cs) (.cells Z 33)
  rw [show (two w cs).heap.size = w.heap.size + 1 + 1 by simp [two]] at this
  exact this
theorem Three.then_ {w wr w2 : World} {cs : Array Value} {m : DM} {k : Nat} {c : Array Value} (h : Three w wr cs m k c) (hb : Bel wr w2) : Three w w2 cs m k c := ⟨h.bel.then_ hb, hb.deferred h.fst, hb.deferred h.snd, hb.deferred h.thd, h.size, h.done⟩
theorem Three.put {w wr : World} {cs : Array Value} {m : DM} {k : Nat} {c : Array Value} (h : Three w wr cs m k c) (hk : k < 64) : Three w (wr.setCell ⟨w.heap.size + 1 + 1, k, none⟩ (.string ⟨(m.files k).toArray⟩)) cs m (k + 1) (c.setIfInBounds k (.string ⟨(m.files k).toArray⟩)) := by
  refine ⟨h.bel.setCell (by show w.heap.size ≤ w.heap.size + 1 + 1; omega) _, ?_, ?_, Blk.set_ h.thd k _, by rw [Array.size_setIfInBounds]; exact h.size, fun j hj => ?_⟩
  · rw [Below.heap_setCell _ _ _ _ (by show w.heap.size ≠ w.heap.size + 1 + 1; omega)]; exact h.fst
  · rw [Below.heap_setCell _ _ _ _ (by show w.heap.size + 1 ≠ w.heap.size + 1 + 1; omega)]; exact h.snd
  · by_cases he : j = k
    · subst he
      rw [Array.getElem?_setIfInBounds_self_of_lt (by rw [h.size]; exact hk)]
    · rw [Array.getElem?_setIfInBounds_ne (fun e => he e.symm)]
      exact h.done j (by omega)
theorem fold_set (f : Array Value → Value × Nat → Array Value) (hf : f = fun cs x => cs.setIfInBounds (1 + x.2) x.1) : ∀ (l : List Value) (i : Nat) (Z : Array Value), 1 + i + l.length ≤ Z.size →
    ((l.zipIdx i).foldl f Z).size = Z.size ∧ ∀ j : Nat, ((l.zipIdx i).foldl f Z)[j]? = if 1 + i ≤ j ∧ j < 1 + i + l.length then l[j - 1 - i]? else Z[j]?
  | [], i, Z, h => ⟨rfl, fun j => by rw [if_neg (by simp)]; rfl⟩
  | x :: l, i, Z, h => by
    have hl : 1 + (i + 1) + l.length ≤ (f Z (x, i)).size := by rw [hf, Array.size_setIfInBounds]; simp at h; omega
    obtain ⟨h1, h2⟩ := fold_set f hf l (i + 1) (f Z (x, i)) hl
    rw [List.zipIdx_cons, List.foldl_cons]
    refine ⟨by rw [h1, hf, Array.size_setIfInBounds], fun j => ?_⟩
    rw [h2 j]
    simp only [List.length_cons] at h ⊢
    by_cases hj : 1 + (i + 1) ≤ j ∧ j < 1 + (i + 1) + l.length
    · rw [if_pos hj, if_pos (by omega), show j - 1 - i = (j - 1 - (i + 1)) + 1 by omega, List.getElem?_cons_succ]
    · rw [if_neg hj]
      by_cases he : j = 1 + i
      · subst he
        rw [if_pos (by omega), show 1 + i - 1 - i = 0 by omega, hf, Array.getElem?_setIfInBounds_self_of_lt (by omega)]
        rfl
      · rw [if_neg (by omega), hf, Array.getElem?_setIfInBounds_ne (fun e => he e.symm)]
/-- The cells of a disk whose synced files are c. -/
noncomputable def laidR (room : Int) (c : Array Value) : Array Value := Array.foldl (fun cs x => cs.setIfInBounds (1 + x.snd) x.fst) (Tryz.zeroCells36.setIfInBounds 0 (.int .i64 room)) c.zipIdx 0 64
theorem laidR_cells (room : Int) (c : Array Value) (syn : Nat → List UInt8) (hc : c.size = 64) (hd : ∀ j, j < 64 → c[j]? = some (.string ⟨(syn j).toArray⟩)) : RCells (laidR room c) room syn (.slice none 0 0) := by
  have hz : Tryz.zeroCells36.size = 66 := by kernel_rfl
  have e : laidR room c = (c.toList.zipIdx 0).foldl (fun cs x => cs.setIfInBounds (1 + x.2) x.1) (Tryz.zeroCells36.setIfInBounds 0 (.int .i64 room)) := by
    unfold laidR
    have h64 : (64 : Nat) = c.zipIdx.size := by simp [hc]
    rw [h64, ← Array.foldl_toList, Array.toList_zipIdx]
  obtain ⟨h1, h2⟩ := fold_set _ rfl c.toList 0 (Tryz.zeroCells36.setIfInBounds 0 (.int .i64 room)) (by rw [Array.size_setIfInBounds, hz, Array.length_toList, hc]; decide)
  rw [← e] at h1 h2
  have hcl : c.toList.length = 64 := by rw [Array.length_toList, hc]
  refine ⟨by rw [h1, Array.size_setIfInBounds, hz], ?_, fun f hf => ?_, ?_, fun A n c e => by injection e with e1 e2 e3; subst e2 e3; exact Nat.le_refl _⟩
  · rw [h2, if_neg (by omega), Array.getElem?_setIfInBounds_self_of_lt (by rw [hz]; omega)]
  · rw [h2, if_pos (by omega), show 1 + f - 1 - 0 = f by omega, Array.getElem?_toList]
    exact hd f hf
  · rw [h2, if_neg (by omega), Array.getElem?_setIfInBounds_ne (by omega)]
    kernel_rfl
set_option maxRecDepth 100000 in
set_option maxHeartbeats 1000000 in
theorem rdSync_any {w : World} {cs : Array Value} {m : DM} (h : RDis w cs m) (hfit : RFit m) :
    Calls Tryz.prog 27 #[.agg cs] w fun e w' => ∃ cs', e = .returned (.agg cs') ∧ RDis w' cs' m.sync ∧ Bel w w' := by
  have H := Lib.hid h
  have HFIT := Lib.hid hfit
  have HSZ := Lib.hid h.info
  clear h hfit
  go_enter Tryz.func27, Tryz.ntmps27
  go_wp2
  go_loopw [4] (fun i wr => ∃ (k : Nat) (c : Array Value), k ≤ 64 ∧ i = .int .i64 k ∧ Hid (Three w wr cs m k c)) (fun i _ => 64 - (intOf i).toNat)
  case atStart => exact ⟨0, _, Nat.zero_le _, rfl, three_start w cs m _ rfl⟩
  case round =>
    obtain ⟨k, c, hk, rfl, HT⟩ := hrel
    by_cases hlt : k < 64
    · have HF := Lib.hid (rdFile_any (H.out.bel HT.out.bel) HFIT.out k hlt)
      have HA := Lib.hid HT.out.fst
      have hkI : (k : Int) < 64 := by omega
      go_wp2_with (first | (refine wpList_load_row rfl 36 _ rfl w.heap.size rfl _ cs (0, 0) _ HA.out Tryz.underlying36 rfl HSZ.out ?_) | (go_at_call 23; refine HF.out.mono ?_; rintro e w2 ⟨rfl, hb2⟩; have HT2 := Lib.hid (HT.out.then_ hb2); have z1 := Blk.cell HT2.out.thd k; have z2 := Blk.frozen HT2.out.thd k; rw [Array.getElem?_eq_getElem (by rw [HT2.out.size]; exact hlt)] at z1; clear hb2))
      go_roundw
      case rel => exact ⟨k + 1, _, by omega, by go_num, HT2.out.put hlt⟩
      case measure => simp [intOf]; omega
    · obtain rfl : k = 64 := by omega
      have HA := Lib.hid HT.out.fst
      have HC := Lib.hid HT.out.thd
      have HSC : Hid ((Tryz.prog.info? 33).map (·.size) = some c.size) := by show _ = _; rw [HT.out.size]; kernel_rfl
      have q0 : wr.cell? ⟨w.heap.size, 0, none⟩ = some (.int .i64 m.room) := by obtain ⟨A, cap, hc, hr⟩ := H.out; rw [Blk.cell HT.out.fst 0]; exact hc.room
      have hcs := HT.out.size
      have hcl := laidR_cells m.room c (fun f => m.files f) hcs HT.out.done
      have HCL := Lib.hid hcl
      have HB := Lib.hid HT.out.snd
      have HLI : Hid ((Tryz.prog.info? 36).map (·.size) = some (laidR m.room c).size) := by show _ = _; rw [hcl.size]; kernel_rfl
      have HLZ : Hid (Tryz.zeroCells36.size = (laidR m.room c).size) := by show _ = _; rw [hcl.size]; kernel_rfl
      have HLO : Hid ((laidR m.room c).all (·.oneCell') = true) := hcl.one
      clear hcl
      go_wp2_with (first | (refine wpList_load_row rfl 33 _ rfl (w.heap.size + 1 + 1) rfl _ c (0, 0) _ HC.out Tryz.underlying33 rfl HSC.out ?_) | (refine wpList_store_row rfl 36 _ _ rfl (w.heap.size + 1) (laidR m.room c) rfl rfl _ _ HB.out HLI.out HLZ.out HLO.out ?_))
      have hb' : Bel w (wr.setRow (w.heap.size + 1) (laidR m.room c)) := below_setRow HT.out.bel (by omega) _
      exact bodyPost_ret (v := .agg (laidR m.room c)) (results_cell_row rfl _ _ (w.heap.size + 1) _ _ _ _ rfl (setRow_heap _ _ _ _ _ _ HB.out) Tryz.underlying36 rfl HLI.out) rfl ⟨_, rfl, ⟨none, 0, HCL.out, fun h => absurd h (by simp [DM.sync])⟩, hb'⟩
end Go.Proofs.YtiajggmnfaidjaaGreatDoor
set_option linter.unusedVariables false
set_option linter.unusedSimpArgs false
set_option linter.unusedVariables false
set_option linter.unusedSimpArgs false
namespace Go.Proofs.YtiajggmnfaidjaaGreatDoor
open Go.RowKit

set_option maxRecDepth 100000 in
theorem rdCrash_arg {w : World} {cs : Array Value} {m : DM} (h : RDis w cs m) (keep torn : Int) (hk : keep < 0 ∨ torn < 0) :
    Calls Tryz.prog 28 #[.agg cs, .int .i64 keep, .int .i64 torn] w (GivesRF m 2 w cs) := by
  have H := Lib.hid h
  have HSZ := Lib.hid h.info
  have HONE := Lib.hid h.one
  have HZS := Lib.hid h.zsize
  have HA := Lib.hid (two_fst w cs)
  have HB := Lib.hid (two_snd w cs)
  clear h
  by_cases hk1 : keep < 0
  · clear hk
    go_enter Tryz.func28, Tryz.ntmps28
    go_wp2_with (first | (refine wpList_load_row rfl 36 _ rfl w.heap.size rfl _ cs (0, 0) _ HA.out Tryz.underlying36 rfl HSZ.out ?_) | (refine wpList_store_row rfl 36 _ _ rfl (w.heap.size + 1) cs rfl rfl _ _ HB.out HSZ.out HZS.out HONE.out ?_))
    exact bodyPost_ret (v := .tuple #[.agg cs, .int .i64 2]) (results_row2 rfl _ _ (w.heap.size + 1) cs _ rfl rfl (setRow_heap _ _ _ _ _ _ HB.out) HSZ.out) rfl (two_ret H.out (Bel.refl _))
  · have hk2 : torn < 0 := by omega
    have hk3 : decide (keep < 0) = false := decide_eq_false hk1
    clear hk
    go_enter Tryz.func28, Tryz.ntmps28
    go_wp2_with (first | (refine wpList_load_row rfl 36 _ rfl w.heap.size rfl _ cs (0, 0) _ HA.out Tryz.underlying36 rfl HSZ.out ?_) | (refine wpList_store_row rfl 36 _ _ rfl (w.heap.size + 1) cs rfl rfl _ _ HB.out HSZ.out HZS.out HONE.out ?_))
    exact bodyPost_ret (v := .tuple #[.agg cs, .int .i64 2]) (results_row2 rfl _ _ (w.heap.size + 1) cs _ rfl rfl (setRow_heap _ _ _ _ _ _ HB.out) HSZ.out) rfl (two_ret H.out (Bel.refl _))
theorem left_all {m : DM} {K : Nat} (T : Int) (h : m.loose.length ≤ K) : m.left2 K T = m.loose := by
  unfold DM.left2
  rw [show ((K : Int)).toNat = K from rfl, List.getElem?_eq_none h]
  simp only [List.append_nil]
  exact List.take_of_length_le h
theorem left_cut {m : DM} {K : Nat} (T : Int) {x : Th} (h : m.loose[K]? = some x) (hc : x.cuts = true) : m.left2 K T = m.loose.take K := by
  unfold DM.left2
  rw [show ((K : Int)).toNat = K from rfl, h]
  dsimp only
  rw [hc]
  simp
theorem left_torn {m : DM} {K T : Nat} {x : Th} (h : m.loose[K]? = some x) (hc : x.cuts = false) : m.left2 K T = m.loose.take K ++ [⟨x.file, x.bytes.take T, x.many, false⟩] := by
  unfold DM.left2
  rw [show ((K : Int)).toNat = K from rfl, h]
  dsimp only
  rw [hc]
  simp
theorem RDis.nil {w w' : World} {cs : Array Value} {m : DM} (h : RDis w cs m) (hn : m.loose = []) : RDis w' cs m := by
  obtain ⟨A, cap, h1, h2⟩ := h
  exact ⟨A, cap, h1, fun hl => by rw [hn] at hl; exact absurd hl (by simp)⟩
theorem rths_put {w9 : World} {B b : Nat} {A9 : Option Addr} {n c : Nat} {l : List Th} (hB : B < b) (h : w9.ownsRow b 105 4 (.slice A9 n c) n (rths l)) (hn : n = l.length) (v : Value) : RThs (w9.setCell ⟨B, 65, none⟩ v) A9 l := fun h0 => by
  obtain ⟨g, cap', hv, hg1, hg2⟩ := h.form (by omega)
  cases hv
  refine ⟨g, 0, rfl, by simpa using hg2, fun j u hu => ?_⟩
  have := h.cells (g := g) rfl j u hu
  rw [add_free] at this
  rw [World.cell?_setCell_other _ _ _ _ (fun e => by have := congrArg Addr.block e; simp at this; omega)]
  exact this
/-- The disk behind the loose things' new list. -/
theorem cut_dis {w V : World} {cs : Array Value} {m m' : DM} {A A9 : Option Addr} {n cap c9 b B : Nat} (hc : RCells cs m.room (fun f => m.synced f) (.slice A n cap)) (hr : m'.room = m.room) (hs : m'.synced = m.synced)
    (hown : V.ownsRow b 105 4 (.slice A9 m'.loose.length c9) m'.loose.length (rths m'.loose)) (hB : B < b) :
    RDis (V.setCell ⟨B, 65, none⟩ (.slice A9 m'.loose.length c9)) (cs.setIfInBounds 65 (.slice A9 m'.loose.length c9)) m' := by
  refine ⟨A9, c9, ?_, rths_put hB hown rfl _⟩
  rw [hr, hs]
  exact hc.put (fun A n c e => by
    injection e with e1 e2 e3
    subst e2 e3
    rcases hown.2 with ⟨hv, h0⟩ | ⟨g, cap, cur, hv, -, -, h1, -⟩
    · injection hv with e1 e2 e3
      omega
    · injection hv with e1 e2 e3
      omega)
set_option maxRecDepth 100000 in
set_option maxHeartbeats 8000000 in
theorem rdCrash_ok {w : World} {cs : Array Value} {m : DM} (h : RDis w cs m) (hfit : RFit m) (hn : m.loose.length < 1000000) (K T : Nat) :
    Calls Tryz.prog 28 #[.agg cs, .int .i64 K, .int .i64 T] w (GivesR (m.crash K T) 0 w) := by
  have HSY := Lib.hid (fun V ds (hV : RDis V ds (m.cutDown K T)) => rdSync_any hV (hfit.left K T (by omega)))
  rw [cutDown_sync m K T (by omega)] at HSY
  have HM : Hid ((m.cutDown K T).room = m.room ∧ (m.cutDown K T).synced = m.synced ∧ (m.cutDown K T).loose = m.left2 K T) := Lib.hid ⟨rfl, rfl, rfl⟩
  have HNS : Hid ((m.crash K T).loose = []) := Lib.hid rfl
  have HSZ5 : Hid (∀ v : Value, (Tryz.prog.info? 36).map (·.size) = some (cs.setIfInBounds 65 v).size) := Lib.hid fun v => by rw [Array.size_setIfInBounds]; exact h.info
  have HZS : Hid (∀ ds m, ∀ V : World, RDis V ds m → Tryz.zeroCells36.size = ds.size ∧ (Tryz.prog.info? 36).map (·.size) = some ds.size ∧ ds.all (·.oneCell') = true) := Lib.hid fun ds m V hd => ⟨hd.zsize, hd.info, hd.one⟩
  have HA := Lib.hid (two_fst w cs)
  have HB := Lib.hid (two_snd w cs)
  have HTW := Lib.hid (two_bel w cs)
  have hbyt : ∀ x ∈ m.loose, x.bytes.length ≤ 16777216 := hfit.bytes
  obtain ⟨A, cap, hcc, hth⟩ := h
  have HC := Lib.hid hcc
  have hle := hcc.le _ _ _ rfl
  have c65 := hcc.loose
  obtain ⟨i0, hi0, hz0, hz1, hz2⟩ := info_parts infoRT
  have hp4 : (0 : Nat) < 4 := by omega
  have hnI : (m.loose.length : Int) ≤ 999999 := by omega
  have hcapI : (m.loose.length : Int) ≤ cap := by omega
  have hal : Bel (two w cs) ((two w cs).alloc (.cells #[] 105)) := (Bel.refl (two w cs)).alloc _
  have HAL := Lib.hid hal
  have h2s : (two w cs).heap.size = w.heap.size + 1 + 1 := by simp [two]
  have HC1 : Hid (((two w cs).alloc (.cells #[] 105)).ownsRow (w.heap.size + 1 + 1) 105 4 (.slice (some ⟨w.heap.size + 1 + 1, 0, none⟩) 0 0) 0 []) := by
    show World.ownsRow _ _ _ _ _ _ _
    rw [← h2s]
    exact ⟨by simp, .inr ⟨(two w cs).heap.size, 0, #[], rfl, Nat.le_refl _, World.alloc_heap_new _ _, Nat.le_refl _, Nat.zero_le _, rfl, rfl⟩⟩
  have HS2 : Hid (w.heap.size + 1 + 1 ≤ ((two w cs).alloc (.cells #[] 105)).heap.size) := by show _ ≤ _; rw [← h2s]; exact hal.size
  have H2S := Lib.hid h2s
  have HRL := Lib.hid (fun j => (((hth.take j).bel (two_bel w cs)).bel hal).reads)
  have HON := Lib.hid (fun j => rths_one (m.loose.take j))
  generalize hMC : m.crash K T = MC at HSY HNS ⊢
  generalize hMD : m.cutDown K T = MD at HSY HM
  clear hal hMC hMD hfit h2s
  by_cases h1 : m.loose.length < K
  · have hL2 := left_all T (show m.loose.length ≤ K by omega)
    have h1I : (m.loose.length : Int) < K := by omega
    have h1J : decide ((K : Int) < m.loose.length) = false := decide_eq_false (by omega)
    have h63a : 0 + (m.loose.take m.loose.length).length ≤ maxLen := by rw [List.length_take]; unfold maxLen; omega
    have hbya : (0 + (m.loose.take m.loose.length).length) * 40 ≤ 140737488355328 := by rw [List.length_take]; omega
    have hlen : (m.loose.take m.loose.length).length = m.loose.length := by rw [List.take_length]
    have HRJ := Lib.hid (HRL.out m.loose.length)
    have HOJ := Lib.hid (HON.out m.loose.length)
    have HEND : Hid (MD.loose = m.loose.take m.loose.length) := by show _ = _; rw [HM.out.2.2, hL2, List.take_length]
    clear hth hbyt hL2 HRL HON hle h1
    cases A with
    | none =>
      go_enter Tryz.func28, Tryz.ntmps28
      go_wp2_with (first
        | (at_builtin; refine wpList_append_any _ rfl (.tmp 17) (.tmp 25) _ rfl (w.heap.size + 1 + 1) 105 i0 _ 4 40 Tryz.underlying34 hi0 hz0 hz1 hz2 rfl hp4 _ 0 [] (by rfl) HC1.out _ none (m.loose.take m.loose.length).length cap (rths (m.loose.take m.loose.length)) (by first | rfl | (rw [hlen]; rfl)) HRJ.out HOJ.out h63a hbya HS2.out ?_
           intro v8 w8 hown8 hg8 hat8
           rw [hlen] at hown8
           simp only [Nat.zero_add, List.nil_append] at hown8
           obtain ⟨A8, c8, rfl⟩ := row_any hown8
           have hb8 : Bel (two w cs) w8 := Below.grown HAL.out hg8 HAL.out.size (fun j e => by have h1 := (HC1.out.lt j e).1; have h2 := H2S.out; omega)
           have HO8 := Lib.hid hown8
           have HB8 := Lib.hid hb8
           have hbl8 := hb8.deferred HA.out
           have HBA8 := Lib.hid hbl8
           have HBB8 := Lib.hid (hb8.deferred HB.out)
           have k65 : w8.cell? ⟨w.heap.size, 65, none⟩ = some (.slice none m.loose.length cap) := by rw [Blk.cell hbl8 65]; exact HC.out.loose
           have kfz : w8.frozen? ⟨w.heap.size, 65, none⟩ = false := Blk.frozen hbl8 65
           clear hown8 hg8 hat8 hb8 hbl8)
        | (refine wpList_load_row rfl 36 (.tmp 3) rfl w.heap.size rfl _ (cs.setIfInBounds 65 (.slice A8 m.loose.length c8)) (0, 0) _ (Blk.set_ HBA8.out 65 _) Tryz.underlying36 rfl (HSZ5.out _) ?_
           have hrd : RDis (w8.setCell ⟨w.heap.size, 65, none⟩ (.slice A8 m.loose.length c8)) (cs.setIfInBounds 65 (.slice A8 m.loose.length c8)) MD := by
             have ho := HO8.out
             have hlm : MD.loose.length = m.loose.length := by rw [HEND.out]; simp [hlen]
             rw [← HEND.out] at ho
             rw [← hlm] at ho ⊢
             exact cut_dis (w := w) HC.out HM.out.1 HM.out.2.1 ho (by omega)
           have HSC := Lib.hid (HSY.out _ _ hrd)
           have hbs : Bel (two w cs) (w8.setCell ⟨w.heap.size, 65, none⟩ (.slice A8 m.loose.length c8)) → True := fun _ => trivial
           have hws : Bel w (w8.setCell ⟨w.heap.size, 65, none⟩ (.slice A8 m.loose.length c8)) := (HTW.out.then_ HB8.out).setCell (Nat.le_refl _) _
           have HWS := Lib.hid hws
           have hbbs : (w8.setCell ⟨w.heap.size, 65, none⟩ (.slice A8 m.loose.length c8)).heap[w.heap.size + 1]? = some (.cells Tryz.zeroCells36 36 (0, 0)) := by rw [Below.heap_setCell _ _ _ _ (by simp)]; exact HBB8.out
           have HBBS := Lib.hid hbbs
           clear hrd hws hbbs hbs)
        | (go_at_call 27; refine HSC.out.mono ?_; rintro e w10 ⟨cs', rfl, hd', hb'⟩
           have HD' := Lib.hid hd'
           have HZ' := Lib.hid (HZS.out _ _ _ hd')
           have HB' := Lib.hid (HWS.out.then_ hb')
           have HBB' := Lib.hid (hb'.deferred HBBS.out)
           clear hd' hb')
        | (refine wpList_store_row rfl 36 (.tmp 6) (.tmp 62) rfl (w.heap.size + 1) cs' rfl rfl _ _ HBB'.out HZ'.out.2.1 HZ'.out.1 HZ'.out.2.2 ?_))
      have hbe : Bel w (w10.setRow (w.heap.size + 1) cs') := below_setRow HB'.out (by omega) _
      exact bodyPost_ret (v := .tuple #[.agg cs', .int .i64 0]) (results_row2 rfl _ _ (w.heap.size + 1) cs' _ rfl rfl (setRow_heap _ _ _ _ _ _ HBB'.out) HZ'.out.2.1) rfl ⟨cs', rfl, HD'.out.nil HNS.out, hbe⟩
    | some ad =>
      go_enter Tryz.func28, Tryz.ntmps28
      go_wp2_with (first
        | (at_builtin; refine wpList_append_any _ rfl (.tmp 17) (.tmp 25) _ rfl (w.heap.size + 1 + 1) 105 i0 _ 4 40 Tryz.underlying34 hi0 hz0 hz1 hz2 rfl hp4 _ 0 [] (by rfl) HC1.out _ (some ad) (m.loose.take m.loose.length).length cap (rths (m.loose.take m.loose.length)) (by first | rfl | (rw [hlen]; rfl)) HRJ.out HOJ.out h63a hbya HS2.out ?_
           intro v8 w8 hown8 hg8 hat8
           rw [hlen] at hown8
           simp only [Nat.zero_add, List.nil_append] at hown8
           obtain ⟨A8, c8, rfl⟩ := row_any hown8
           have hb8 : Bel (two w cs) w8 := Below.grown HAL.out hg8 HAL.out.size (fun j e => by have h1 := (HC1.out.lt j e).1; have h2 := H2S.out; omega)
           have HO8 := Lib.hid hown8
           have HB8 := Lib.hid hb8
           have hbl8 := hb8.deferred HA.out
           have HBA8 := Lib.hid hbl8
           have HBB8 := Lib.hid (hb8.deferred HB.out)
           have k65 : w8.cell? ⟨w.heap.size, 65, none⟩ = some (.slice (some ad) m.loose.length cap) := by rw [Blk.cell hbl8 65]; exact HC.out.loose
           have kfz : w8.frozen? ⟨w.heap.size, 65, none⟩ = false := Blk.frozen hbl8 65
           clear hown8 hg8 hat8 hb8 hbl8)
        | (refine wpList_load_row rfl 36 (.tmp 3) rfl w.heap.size rfl _ (cs.setIfInBounds 65 (.slice A8 m.loose.length c8)) (0, 0) _ (Blk.set_ HBA8.out 65 _) Tryz.underlying36 rfl (HSZ5.out _) ?_
           have hrd : RDis (w8.setCell ⟨w.heap.size, 65, none⟩ (.slice A8 m.loose.length c8)) (cs.setIfInBounds 65 (.slice A8 m.loose.length c8)) MD := by
             have ho := HO8.out
             have hlm : MD.loose.length = m.loose.length := by rw [HEND.out]; simp [hlen]
             rw [← HEND.out] at ho
             rw [← hlm] at ho ⊢
             exact cut_dis (w := w) HC.out HM.out.1 HM.out.2.1 ho (by omega)
           have HSC := Lib.hid (HSY.out _ _ hrd)
           have hbs : Bel (two w cs) (w8.setCell ⟨w.heap.size, 65, none⟩ (.slice A8 m.loose.length c8)) → True := fun _ => trivial
           have hws : Bel w (w8.setCell ⟨w.heap.size, 65, none⟩ (.slice A8 m.loose.length c8)) := (HTW.out.then_ HB8.out).setCell (Nat.le_refl _) _
           have HWS := Lib.hid hws
           have hbbs : (w8.setCell ⟨w.heap.size, 65, none⟩ (.slice A8 m.loose.length c8)).heap[w.heap.size + 1]? = some (.cells Tryz.zeroCells36 36 (0, 0)) := by rw [Below.heap_setCell _ _ _ _ (by simp)]; exact HBB8.out
           have HBBS := Lib.hid hbbs
           clear hrd hws hbbs hbs)
        | (go_at_call 27; refine HSC.out.mono ?_; rintro e w10 ⟨cs', rfl, hd', hb'⟩
           have HD' := Lib.hid hd'
           have HZ' := Lib.hid (HZS.out _ _ _ hd')
           have HB' := Lib.hid (HWS.out.then_ hb')
           have HBB' := Lib.hid (hb'.deferred HBBS.out)
           clear hd' hb')
        | (refine wpList_store_row rfl 36 (.tmp 6) (.tmp 62) rfl (w.heap.size + 1) cs' rfl rfl _ _ HBB'.out HZ'.out.2.1 HZ'.out.1 HZ'.out.2.2 ?_))
      have hbe : Bel w (w10.setRow (w.heap.size + 1) cs') := below_setRow HB'.out (by omega) _
      exact bodyPost_ret (v := .tuple #[.agg cs', .int .i64 0]) (results_row2 rfl _ _ (w.heap.size + 1) cs' _ rfl rfl (setRow_heap _ _ _ _ _ _ HBB'.out) HZ'.out.2.1) rfl ⟨cs', rfl, HD'.out.nil HNS.out, hbe⟩
  · by_cases h2 : m.loose.length = K
    · have hL2 := left_all T (show m.loose.length ≤ K by omega)
      subst h2
      have h1I : ¬ (m.loose.length : Int) < (m.loose.length : Nat) := by omega
      have h1J : decide ((m.loose.length : Int) < m.loose.length) = false := decide_eq_false (by omega)
      have h63a : 0 + (m.loose.take m.loose.length).length ≤ maxLen := by rw [List.length_take]; unfold maxLen; omega
      have hbya : (0 + (m.loose.take m.loose.length).length) * 40 ≤ 140737488355328 := by rw [List.length_take]; omega
      have hlen : (m.loose.take m.loose.length).length = m.loose.length := by rw [List.take_length]
      have HRJ := Lib.hid (HRL.out m.loose.length)
      have HOJ := Lib.hid (HON.out m.loose.length)
      have HEND : Hid (MD.loose = m.loose.take m.loose.length) := by show _ = _; rw [HM.out.2.2, hL2, List.take_length]
      clear hth hbyt hL2 HRL HON hle h1
      cases A with
      | none =>
        go_enter Tryz.func28, Tryz.ntmps28
        go_wp2_with (first
          | (at_builtin; refine wpList_append_any _ rfl (.tmp 17) (.tmp 25) _ rfl (w.heap.size + 1 + 1) 105 i0 _ 4 40 Tryz.underlying34 hi0 hz0 hz1 hz2 rfl hp4 _ 0 [] (by rfl) HC1.out _ none (m.loose.take m.loose.length).length cap (rths (m.loose.take m.loose.length)) (by first | rfl | (rw [hlen]; rfl)) HRJ.out HOJ.out h63a hbya HS2.out ?_
             intro v8 w8 hown8 hg8 hat8
             rw [hlen] at hown8
             simp only [Nat.zero_add, List.nil_append] at hown8
             obtain ⟨A8, c8, rfl⟩ := row_any hown8
             have hb8 : Bel (two w cs) w8 := Below.grown HAL.out hg8 HAL.out.size (fun j e => by have h1 := (HC1.out.lt j e).1; have h2 := H2S.out; omega)
             have HO8 := Lib.hid hown8
             have HB8 := Lib.hid hb8
             have hbl8 := hb8.deferred HA.out
             have HBA8 := Lib.hid hbl8
             have HBB8 := Lib.hid (hb8.deferred HB.out)
             have k65 : w8.cell? ⟨w.heap.size, 65, none⟩ = some (.slice none m.loose.length cap) := by rw [Blk.cell hbl8 65]; exact HC.out.loose
             have kfz : w8.frozen? ⟨w.heap.size, 65, none⟩ = false := Blk.frozen hbl8 65
             clear hown8 hg8 hat8 hb8 hbl8)
          | (refine wpList_load_row rfl 36 (.tmp 3) rfl w.heap.size rfl _ (cs.setIfInBounds 65 (.slice A8 m.loose.length c8)) (0, 0) _ (Blk.set_ HBA8.out 65 _) Tryz.underlying36 rfl (HSZ5.out _) ?_
             have hrd : RDis (w8.setCell ⟨w.heap.size, 65, none⟩ (.slice A8 m.loose.length c8)) (cs.setIfInBounds 65 (.slice A8 m.loose.length c8)) MD := by
               have ho := HO8.out
               have hlm : MD.loose.length = m.loose.length := by rw [HEND.out]; simp [hlen]
               rw [← HEND.out] at ho
               rw [← hlm] at ho ⊢
               exact cut_dis (w := w) HC.out HM.out.1 HM.out.2.1 ho (by omega)
             have HSC := Lib.hid (HSY.out _ _ hrd)
             have hbs : Bel (two w cs) (w8.setCell ⟨w.heap.size, 65, none⟩ (.slice A8 m.loose.length c8)) → True := fun _ => trivial
             have hws : Bel w (w8.setCell ⟨w.heap.size, 65, none⟩ (.slice A8 m.loose.length c8)) := (HTW.out.then_ HB8.out).setCell (Nat.le_refl _) _
             have HWS := Lib.hid hws
             have hbbs : (w8.setCell ⟨w.heap.size, 65, none⟩ (.slice A8 m.loose.length c8)).heap[w.heap.size + 1]? = some (.cells Tryz.zeroCells36 36 (0, 0)) := by rw [Below.heap_setCell _ _ _ _ (by simp)]; exact HBB8.out
             have HBBS := Lib.hid hbbs
             clear hrd hws hbbs hbs)
          | (go_at_call 27; refine HSC.out.mono ?_; rintro e w10 ⟨cs', rfl, hd', hb'⟩
             have HD' := Lib.hid hd'
             have HZ' := Lib.hid (HZS.out _ _ _ hd')
             have HB' := Lib.hid (HWS.out.then_ hb')
             have HBB' := Lib.hid (hb'.deferred HBBS.out)
             clear hd' hb')
          | (refine wpList_store_row rfl 36 (.tmp 6) (.tmp 62) rfl (w.heap.size + 1) cs' rfl rfl _ _ HBB'.out HZ'.out.2.1 HZ'.out.1 HZ'.out.2.2 ?_))
        have hbe : Bel w (w10.setRow (w.heap.size + 1) cs') := below_setRow HB'.out (by omega) _
        exact bodyPost_ret (v := .tuple #[.agg cs', .int .i64 0]) (results_row2 rfl _ _ (w.heap.size + 1) cs' _ rfl rfl (setRow_heap _ _ _ _ _ _ HBB'.out) HZ'.out.2.1) rfl ⟨cs', rfl, HD'.out.nil HNS.out, hbe⟩
      | some ad =>
        go_enter Tryz.func28, Tryz.ntmps28
        go_wp2_with (first
          | (at_builtin; refine wpList_append_any _ rfl (.tmp 17) (.tmp 25) _ rfl (w.heap.size + 1 + 1) 105 i0 _ 4 40 Tryz.underlying34 hi0 hz0 hz1 hz2 rfl hp4 _ 0 [] (by rfl) HC1.out _ (some ad) (m.loose.take m.loose.length).length cap (rths (m.loose.take m.loose.length)) (by first | rfl | (rw [hlen]; rfl)) HRJ.out HOJ.out h63a hbya HS2.out ?_
             intro v8 w8 hown8 hg8 hat8
             rw [hlen] at hown8
             simp only [Nat.zero_add, List.nil_append] at hown8
             obtain ⟨A8, c8, rfl⟩ := row_any hown8
             have hb8 : Bel (two w cs) w8 := Below.grown HAL.out hg8 HAL.out.size (fun j e => by have h1 := (HC1.out.lt j e).1; have h2 := H2S.out; omega)
             have HO8 := Lib.hid hown8
             have HB8 := Lib.hid hb8
             have hbl8 := hb8.deferred HA.out
             have HBA8 := Lib.hid hbl8
             have HBB8 := Lib.hid (hb8.deferred HB.out)
             have k65 : w8.cell? ⟨w.heap.size, 65, none⟩ = some (.slice (some ad) m.loose.length cap) := by rw [Blk.cell hbl8 65]; exact HC.out.loose
             have kfz : w8.frozen? ⟨w.heap.size, 65, none⟩ = false := Blk.frozen hbl8 65
             clear hown8 hg8 hat8 hb8 hbl8)
          | (refine wpList_load_row rfl 36 (.tmp 3) rfl w.heap.size rfl _ (cs.setIfInBounds 65 (.slice A8 m.loose.length c8)) (0, 0) _ (Blk.set_ HBA8.out 65 _) Tryz.underlying36 rfl (HSZ5.out _) ?_
             have hrd : RDis (w8.setCell ⟨w.heap.size, 65, none⟩ (.slice A8 m.loose.length c8)) (cs.setIfInBounds 65 (.slice A8 m.loose.length c8)) MD := by
               have ho := HO8.out
               have hlm : MD.loose.length = m.loose.length := by rw [HEND.out]; simp [hlen]
               rw [← HEND.out] at ho
               rw [← hlm] at ho ⊢
               exact cut_dis (w := w) HC.out HM.out.1 HM.out.2.1 ho (by omega)
             have HSC := Lib.hid (HSY.out _ _ hrd)
             have hbs : Bel (two w cs) (w8.setCell ⟨w.heap.size, 65, none⟩ (.slice A8 m.loose.length c8)) → True := fun _ => trivial
             have hws : Bel w (w8.setCell ⟨w.heap.size, 65, none⟩ (.slice A8 m.loose.length c8)) := (HTW.out.then_ HB8.out).setCell (Nat.le_refl _) _
             have HWS := Lib.hid hws
             have hbbs : (w8.setCell ⟨w.heap.size, 65, none⟩ (.slice A8 m.loose.length c8)).heap[w.heap.size + 1]? = some (.cells Tryz.zeroCells36 36 (0, 0)) := by rw [Below.heap_setCell _ _ _ _ (by simp)]; exact HBB8.out
             have HBBS := Lib.hid hbbs
             clear hrd hws hbbs hbs)
          | (go_at_call 27; refine HSC.out.mono ?_; rintro e w10 ⟨cs', rfl, hd', hb'⟩
             have HD' := Lib.hid hd'
             have HZ' := Lib.hid (HZS.out _ _ _ hd')
             have HB' := Lib.hid (HWS.out.then_ hb')
             have HBB' := Lib.hid (hb'.deferred HBBS.out)
             clear hd' hb')
          | (refine wpList_store_row rfl 36 (.tmp 6) (.tmp 62) rfl (w.heap.size + 1) cs' rfl rfl _ _ HBB'.out HZ'.out.2.1 HZ'.out.1 HZ'.out.2.2 ?_))
        have hbe : Bel w (w10.setRow (w.heap.size + 1) cs') := below_setRow HB'.out (by omega) _
        exact bodyPost_ret (v := .tuple #[.agg cs', .int .i64 0]) (results_row2 rfl _ _ (w.heap.size + 1) cs' _ rfl rfl (setRow_heap _ _ _ _ _ _ HBB'.out) HZ'.out.2.1) rfl ⟨cs', rfl, HD'.out.nil HNS.out, hbe⟩
    · have h3 : K < m.loose.length := by omega
      have h1I : ¬ (m.loose.length : Int) < K := by omega
      have h1J : (K : Int) < m.loose.length := by omega
      have hKcap : (K : Int) ≤ cap := by omega
      obtain ⟨x, hx⟩ : ∃ x, m.loose[K]? = some x := ⟨_, List.getElem?_eq_getElem h3⟩
      obtain ⟨g, off, rfl, x0, x1, x2, x3⟩ := (hth.bel HTW.out).at_ hx
      have h63a : 0 + (m.loose.take K).length ≤ maxLen := by rw [List.length_take]; unfold maxLen; omega
      have hbya : (0 + (m.loose.take K).length) * 40 ≤ 140737488355328 := by rw [List.length_take]; omega
      have hlen : (m.loose.take K).length = K := by rw [List.length_take]; omega
      have HRJ := Lib.hid (HRL.out K)
      have HOJ := Lib.hid (HON.out K)
      have hxb := hbyt x (List.mem_of_getElem? hx)
      by_cases hc : x.cuts = true
      · have hL2 := left_cut T hx hc
        rw [hc] at x2
        have HEND : Hid (MD.loose = m.loose.take K) := by show _ = _; rw [HM.out.2.2, hL2]
        have HX2 := Lib.hid x2
        clear hth hbyt hL2 HRL HON hle h1 h2 h3 x0 x1 x2 x3 hx hc
        go_enter Tryz.func28, Tryz.ntmps28
        go_wp2_with (first
          | (at_builtin; refine wpList_append_any _ rfl (.tmp 17) (.tmp 25) _ rfl (w.heap.size + 1 + 1) 105 i0 _ 4 40 Tryz.underlying34 hi0 hz0 hz1 hz2 rfl hp4 _ 0 [] (by rfl) HC1.out _ (some ⟨g, off, none⟩) (m.loose.take K).length cap (rths (m.loose.take K)) (by first | rfl | (rw [hlen]; rfl)) HRJ.out HOJ.out h63a hbya HS2.out ?_
             intro v8 w8 hown8 hg8 hat8
             rw [hlen] at hown8
             simp only [Nat.zero_add, List.nil_append] at hown8
             obtain ⟨A8, c8, rfl⟩ := row_any hown8
             have hb8 : Bel (two w cs) w8 := Below.grown HAL.out hg8 HAL.out.size (fun j e => by have h1 := (HC1.out.lt j e).1; have h2 := H2S.out; omega)
             have HO8 := Lib.hid hown8
             have HB8 := Lib.hid hb8
             have hbl8 := hb8.deferred HA.out
             have HBA8 := Lib.hid hbl8
             have HBB8 := Lib.hid (hb8.deferred HB.out)
             have k65 : w8.cell? ⟨w.heap.size, 65, none⟩ = some (.slice (some ⟨g, off, none⟩) m.loose.length cap) := by rw [Blk.cell hbl8 65]; exact HC.out.loose
             have kfz : w8.frozen? ⟨w.heap.size, 65, none⟩ = false := Blk.frozen hbl8 65
             have y2 := hb8.c HX2.out
             clear hown8 hg8 hat8 hb8 hbl8)
          | (refine wpList_load_row rfl 36 (.tmp 3) rfl w.heap.size rfl _ (cs.setIfInBounds 65 (.slice A8 K c8)) (0, 0) _ (Blk.set_ HBA8.out 65 _) Tryz.underlying36 rfl (HSZ5.out _) ?_
             have hrd : RDis (w8.setCell ⟨w.heap.size, 65, none⟩ (.slice A8 K c8)) (cs.setIfInBounds 65 (.slice A8 K c8)) MD := by
               have ho := HO8.out
               have hlm : MD.loose.length = K := by rw [HEND.out]; simp [hlen]
               rw [← HEND.out] at ho
               rw [← hlm] at ho ⊢
               exact cut_dis (w := w) HC.out HM.out.1 HM.out.2.1 ho (by omega)
             have HSC := Lib.hid (HSY.out _ _ hrd)
             have hbs : Bel (two w cs) (w8.setCell ⟨w.heap.size, 65, none⟩ (.slice A8 K c8)) → True := fun _ => trivial
             have hws : Bel w (w8.setCell ⟨w.heap.size, 65, none⟩ (.slice A8 K c8)) := (HTW.out.then_ HB8.out).setCell (Nat.le_refl _) _
             have HWS := Lib.hid hws
             have hbbs : (w8.setCell ⟨w.heap.size, 65, none⟩ (.slice A8 K c8)).heap[w.heap.size + 1]? = some (.cells Tryz.zeroCells36 36 (0, 0)) := by rw [Below.heap_setCell _ _ _ _ (by simp)]; exact HBB8.out
             have HBBS := Lib.hid hbbs
             clear hrd hws hbbs hbs)
          | (go_at_call 27; refine HSC.out.mono ?_; rintro e w10 ⟨cs', rfl, hd', hb'⟩
             have HD' := Lib.hid hd'
             have HZ' := Lib.hid (HZS.out _ _ _ hd')
             have HB' := Lib.hid (HWS.out.then_ hb')
             have HBB' := Lib.hid (hb'.deferred HBBS.out)
             clear hd' hb')
          | (refine wpList_store_row rfl 36 (.tmp 6) (.tmp 62) rfl (w.heap.size + 1) cs' rfl rfl _ _ HBB'.out HZ'.out.2.1 HZ'.out.1 HZ'.out.2.2 ?_))
        have hbe : Bel w (w10.setRow (w.heap.size + 1) cs') := below_setRow HB'.out (by omega) _
        exact bodyPost_ret (v := .tuple #[.agg cs', .int .i64 0]) (results_row2 rfl _ _ (w.heap.size + 1) cs' _ rfl rfl (setRow_heap _ _ _ _ _ _ HBB'.out) HZ'.out.2.1) rfl ⟨cs', rfl, HD'.out.nil HNS.out, hbe⟩
      · have hcf : x.cuts = false := by simpa using hc
        rw [hcf] at x2
        have hszx : (⟨x.bytes.toArray⟩ : ByteArray).size = x.bytes.length := rfl
        have hxbI : (x.bytes.length : Int) ≤ 16777216 := by omega
        obtain ⟨y, hy⟩ : ∃ y : Th, y = ⟨x.file, x.bytes.take T, x.many, false⟩ := ⟨_, rfl⟩
        have hL2 : m.left2 K T = m.loose.take K ++ [y] := by rw [hy]; exact left_torn hx hcf
        have HEND : Hid (MD.loose = m.loose.take K ++ [y]) := by show _ = _; rw [HM.out.2.2, hL2]
        have h63b : K + 1 ≤ maxLen := by unfold maxLen; omega
        have hbyb : (K + 1) * 40 ≤ 140737488355328 := by omega
        have HX := Lib.hid (show _ ∧ _ ∧ _ ∧ _ from ⟨x0, x1, x2, x3⟩)
        have HON1 : Hid (∀ u ∈ rth y, u.oneCell' = true) := rth_one _
        have HY := Lib.hid hy
        clear hth hbyt hL2 HRL HON hle h1 h2 h3 x0 x1 x2 x3 hx hc hcf hy
        by_cases ht : x.bytes.length < T
        · have htI : (x.bytes.length : Int) < T := by omega
          have HTK : Hid ((⟨x.bytes.toArray⟩ : ByteArray).extract 0 x.bytes.length = ⟨y.bytes.toArray⟩) := by show _ = _; rw [HY.out, take_bytes, List.take_length]; show _ = (⟨(x.bytes.take T).toArray⟩ : ByteArray); rw [List.take_of_length_le (by omega)]
          clear ht
          go_enter Tryz.func28, Tryz.ntmps28
          go_wp2_with (first
            | (at_builtin; refine wpList_append_any _ rfl (.tmp 17) (.tmp 25) _ rfl (w.heap.size + 1 + 1) 105 i0 _ 4 40 Tryz.underlying34 hi0 hz0 hz1 hz2 rfl hp4 _ 0 [] (by rfl) HC1.out _ (some ⟨g, off, none⟩) (m.loose.take K).length cap (rths (m.loose.take K)) (by first | rfl | (rw [hlen]; rfl)) HRJ.out HOJ.out h63a hbya HS2.out ?_
               intro v8 w8 hown8 hg8 hat8
               rw [hlen] at hown8
               simp only [Nat.zero_add, List.nil_append] at hown8
               obtain ⟨A8, c8, rfl⟩ := row_any hown8
               have hb8 : Bel (two w cs) w8 := Below.grown HAL.out hg8 HAL.out.size (fun j e => by have h1 := (HC1.out.lt j e).1; have h2 := H2S.out; omega)
               have HO8 := Lib.hid hown8
               have HB8 := Lib.hid hb8
               have hbl8 := hb8.deferred HA.out
               have HBA8 := Lib.hid hbl8
               have HBB8 := Lib.hid (hb8.deferred HB.out)
               have k65 : w8.cell? ⟨w.heap.size, 65, none⟩ = some (.slice (some ⟨g, off, none⟩) m.loose.length cap) := by rw [Blk.cell hbl8 65]; exact HC.out.loose
               have kfz : w8.frozen? ⟨w.heap.size, 65, none⟩ = false := Blk.frozen hbl8 65
               have y2 := hb8.c HX.out.2.2.1
               have y0 := hb8.c HX.out.1
               have y1 := hb8.c HX.out.2.1
               have y3 := hb8.c HX.out.2.2.2
               have htk := HTK.out
               clear hown8 hg8 hat8 hb8 hbl8)
            | (at_builtin; obtain ⟨V8, hV8⟩ : ∃ V8, V8 = w8.alloc (.cells #[.int .i64 x.file, .int .i64 x.many, .bool false, .string ⟨y.bytes.toArray⟩] 105) := ⟨_, rfl⟩
               have hal8 : Bel w8 (V8.alloc (.cells #[.int .i64 x.file, .int .i64 x.many, .bool false, .string ⟨y.bytes.toArray⟩] 105)) := by rw [hV8]; exact ((Bel.refl w8).alloc _).alloc _
               have HO8' := Lib.hid (ownsRow_bel HO8.out hal8)
               have HX8 : Hid (Reads (V8.alloc (.cells #[.int .i64 x.file, .int .i64 x.many, .bool false, .string ⟨y.bytes.toArray⟩] 105)) (V8.heap.size + 1) 4 (some ⟨V8.heap.size, 0, none⟩) 1 (rth y)) := by rw [HY.out]; exact reads4 V8 _ _ _ _ _
               have HS8 : Hid ((two w cs).heap.size ≤ (V8.alloc (.cells #[.int .i64 x.file, .int .i64 x.many, .bool false, .string ⟨y.bytes.toArray⟩] 105)).heap.size) := Nat.le_trans HB8.out.size hal8.size
               have HS9 : Hid (w.heap.size + 1 + 1 ≤ (V8.alloc (.cells #[.int .i64 x.file, .int .i64 x.many, .bool false, .string ⟨y.bytes.toArray⟩] 105)).heap.size) := by show _ ≤ _; have h1 := HS8.out; have h2 := H2S.out; omega
               have HAL8 := Lib.hid hal8
               clear hal8
               subst hV8
               refine wpList_append_any _ rfl (.tmp 55) (.tmp 57) _ rfl (w.heap.size + 1 + 1) 105 i0 _ 4 40 Tryz.underlying34 hi0 hz0 hz1 hz2 rfl hp4 _ K (rths (m.loose.take K)) (by rfl) HO8'.out _ (some ⟨w8.heap.size + 1, 0, none⟩) 1 1 (rth y) (by rfl) (by simpa using HX8.out) HON1.out h63b hbyb (by simpa using HS9.out) ?_
               intro v9 w9 hown9 hg9 hat9
               obtain ⟨A9, c9, rfl⟩ := row_any hown9
               rw [← rths_snoc] at hown9
               have hb9 : Bel (two w cs) w9 := Below.grown (HB8.out.then_ HAL8.out) hg9 HS8.out (fun j e => by have h1 := (HO8.out.lt j e).1; have h2 := H2S.out; omega)
               have HO9 := Lib.hid hown9
               have HB9 := Lib.hid hb9
               have hbl9 := hb9.deferred HA.out
               have HBA9 := Lib.hid hbl9
               have HBB9 := Lib.hid (hb9.deferred HB.out)
               have k659 : w9.cell? ⟨w.heap.size, 65, none⟩ = some (.slice (some ⟨g, off, none⟩) m.loose.length cap) := by rw [Blk.cell hbl9 65]; exact HC.out.loose
               have kfz9 : w9.frozen? ⟨w.heap.size, 65, none⟩ = false := Blk.frozen hbl9 65
               clear hown9 hg9 hat9 hb9 hbl9)
            | (refine wpList_load_row rfl 36 (.tmp 3) rfl w.heap.size rfl _ (cs.setIfInBounds 65 (.slice A9 (K + 1) c9)) (0, 0) _ (Blk.set_ HBA9.out 65 _) Tryz.underlying36 rfl (HSZ5.out _) ?_
               have hrd : RDis (w9.setCell ⟨w.heap.size, 65, none⟩ (.slice A9 (K + 1) c9)) (cs.setIfInBounds 65 (.slice A9 (K + 1) c9)) MD := by
                 have ho := HO9.out
                 have hlm : MD.loose.length = (K + 1) := by rw [HEND.out]; simp [hlen]
                 rw [← HEND.out] at ho
                 rw [← hlm] at ho ⊢
                 exact cut_dis (w := w) HC.out HM.out.1 HM.out.2.1 ho (by omega)
               have HSC := Lib.hid (HSY.out _ _ hrd)
               have hbs : Bel (two w cs) (w9.setCell ⟨w.heap.size, 65, none⟩ (.slice A9 (K + 1) c9)) → True := fun _ => trivial
               have hws : Bel w (w9.setCell ⟨w.heap.size, 65, none⟩ (.slice A9 (K + 1) c9)) := (HTW.out.then_ HB9.out).setCell (Nat.le_refl _) _
               have HWS := Lib.hid hws
               have hbbs : (w9.setCell ⟨w.heap.size, 65, none⟩ (.slice A9 (K + 1) c9)).heap[w.heap.size + 1]? = some (.cells Tryz.zeroCells36 36 (0, 0)) := by rw [Below.heap_setCell _ _ _ _ (by simp)]; exact HBB9.out
               have HBBS := Lib.hid hbbs
               clear hrd hws hbbs hbs)
            | (go_at_call 27; refine HSC.out.mono ?_; rintro e w10 ⟨cs', rfl, hd', hb'⟩
               have HD' := Lib.hid hd'
               have HZ' := Lib.hid (HZS.out _ _ _ hd')
               have HB' := Lib.hid (HWS.out.then_ hb')
               have HBB' := Lib.hid (hb'.deferred HBBS.out)
               clear hd' hb')
            | (refine wpList_store_row rfl 36 (.tmp 6) (.tmp 62) rfl (w.heap.size + 1) cs' rfl rfl _ _ HBB'.out HZ'.out.2.1 HZ'.out.1 HZ'.out.2.2 ?_))
          have hbe : Bel w (w10.setRow (w.heap.size + 1) cs') := below_setRow HB'.out (by omega) _
          exact bodyPost_ret (v := .tuple #[.agg cs', .int .i64 0]) (results_row2 rfl _ _ (w.heap.size + 1) cs' _ rfl rfl (setRow_heap _ _ _ _ _ _ HBB'.out) HZ'.out.2.1) rfl ⟨cs', rfl, HD'.out.nil HNS.out, hbe⟩
        · have htI : ¬ (x.bytes.length : Int) < T := by omega
          have htJ : (T : Int) ≤ x.bytes.length := by omega
          have HTK : Hid ((⟨x.bytes.toArray⟩ : ByteArray).extract 0 T = ⟨y.bytes.toArray⟩) := by show _ = _; rw [HY.out, take_bytes]
          clear ht
          go_enter Tryz.func28, Tryz.ntmps28
          go_wp2_with (first
            | (at_builtin; refine wpList_append_any _ rfl (.tmp 17) (.tmp 25) _ rfl (w.heap.size + 1 + 1) 105 i0 _ 4 40 Tryz.underlying34 hi0 hz0 hz1 hz2 rfl hp4 _ 0 [] (by rfl) HC1.out _ (some ⟨g, off, none⟩) (m.loose.take K).length cap (rths (m.loose.take K)) (by first | rfl | (rw [hlen]; rfl)) HRJ.out HOJ.out h63a hbya HS2.out ?_
               intro v8 w8 hown8 hg8 hat8
               rw [hlen] at hown8
               simp only [Nat.zero_add, List.nil_append] at hown8
               obtain ⟨A8, c8, rfl⟩ := row_any hown8
               have hb8 : Bel (two w cs) w8 := Below.grown HAL.out hg8 HAL.out.size (fun j e => by have h1 := (HC1.out.lt j e).1; have h2 := H2S.out; omega)
               have HO8 := Lib.hid hown8
               have HB8 := Lib.hid hb8
               have hbl8 := hb8.deferred HA.out
               have HBA8 := Lib.hid hbl8
               have HBB8 := Lib.hid (hb8.deferred HB.out)
               have k65 : w8.cell? ⟨w.heap.size, 65, none⟩ = some (.slice (some ⟨g, off, none⟩) m.loose.length cap) := by rw [Blk.cell hbl8 65]; exact HC.out.loose
               have kfz : w8.frozen? ⟨w.heap.size, 65, none⟩ = false := Blk.frozen hbl8 65
               have y2 := hb8.c HX.out.2.2.1
               have y0 := hb8.c HX.out.1
               have y1 := hb8.c HX.out.2.1
               have y3 := hb8.c HX.out.2.2.2
               have htk := HTK.out
               clear hown8 hg8 hat8 hb8 hbl8)
            | (at_builtin; obtain ⟨V8, hV8⟩ : ∃ V8, V8 = w8.alloc (.cells #[.int .i64 x.file, .int .i64 x.many, .bool false, .string ⟨y.bytes.toArray⟩] 105) := ⟨_, rfl⟩
               have hal8 : Bel w8 (V8.alloc (.cells #[.int .i64 x.file, .int .i64 x.many, .bool false, .string ⟨y.bytes.toArray⟩] 105)) := by rw [hV8]; exact ((Bel.refl w8).alloc _).alloc _
               have HO8' := Lib.hid (ownsRow_bel HO8.out hal8)
               have HX8 : Hid (Reads (V8.alloc (.cells #[.int .i64 x.file, .int .i64 x.many, .bool false, .string ⟨y.bytes.toArray⟩] 105)) (V8.heap.size + 1) 4 (some ⟨V8.heap.size, 0, none⟩) 1 (rth y)) := by rw [HY.out]; exact reads4 V8 _ _ _ _ _
               have HS8 : Hid ((two w cs).heap.size ≤ (V8.alloc (.cells #[.int .i64 x.file, .int .i64 x.many, .bool false, .string ⟨y.bytes.toArray⟩] 105)).heap.size) := Nat.le_trans HB8.out.size hal8.size
               have HS9 : Hid (w.heap.size + 1 + 1 ≤ (V8.alloc (.cells #[.int .i64 x.file, .int .i64 x.many, .bool false, .string ⟨y.bytes.toArray⟩] 105)).heap.size) := by show _ ≤ _; have h1 := HS8.out; have h2 := H2S.out; omega
               have HAL8 := Lib.hid hal8
               clear hal8
               subst hV8
               refine wpList_append_any _ rfl (.tmp 55) (.tmp 57) _ rfl (w.heap.size + 1 + 1) 105 i0 _ 4 40 Tryz.underlying34 hi0 hz0 hz1 hz2 rfl hp4 _ K (rths (m.loose.take K)) (by rfl) HO8'.out _ (some ⟨w8.heap.size + 1, 0, none⟩) 1 1 (rth y) (by rfl) (by simpa using HX8.out) HON1.out h63b hbyb (by simpa using HS9.out) ?_
               intro v9 w9 hown9 hg9 hat9
               obtain ⟨A9, c9, rfl⟩ := row_any hown9
               rw [← rths_snoc] at hown9
               have hb9 : Bel (two w cs) w9 := Below.grown (HB8.out.then_ HAL8.out) hg9 HS8.out (fun j e => by have h1 := (HO8.out.lt j e).1; have h2 := H2S.out; omega)
               have HO9 := Lib.hid hown9
               have HB9 := Lib.hid hb9
               have hbl9 := hb9.deferred HA.out
               have HBA9 := Lib.hid hbl9
               have HBB9 := Lib.hid (hb9.deferred HB.out)
               have k659 : w9.cell? ⟨w.heap.size, 65, none⟩ = some (.slice (some ⟨g, off, none⟩) m.loose.length cap) := by rw [Blk.cell hbl9 65]; exact HC.out.loose
               have kfz9 : w9.frozen? ⟨w.heap.size, 65, none⟩ = false := Blk.frozen hbl9 65
               clear hown9 hg9 hat9 hb9 hbl9)
            | (refine wpList_load_row rfl 36 (.tmp 3) rfl w.heap.size rfl _ (cs.setIfInBounds 65 (.slice A9 (K + 1) c9)) (0, 0) _ (Blk.set_ HBA9.out 65 _) Tryz.underlying36 rfl (HSZ5.out _) ?_
               have hrd : RDis (w9.setCell ⟨w.heap.size, 65, none⟩ (.slice A9 (K + 1) c9)) (cs.setIfInBounds 65 (.slice A9 (K + 1) c9)) MD := by
                 have ho := HO9.out
                 have hlm : MD.loose.length = (K + 1) := by rw [HEND.out]; simp [hlen]
                 rw [← HEND.out] at ho
                 rw [← hlm] at ho ⊢
                 exact cut_dis (w := w) HC.out HM.out.1 HM.out.2.1 ho (by omega)
               have HSC := Lib.hid (HSY.out _ _ hrd)
               have hbs : Bel (two w cs) (w9.setCell ⟨w.heap.size, 65, none⟩ (.slice A9 (K + 1) c9)) → True := fun _ => trivial
               have hws : Bel w (w9.setCell ⟨w.heap.size, 65, none⟩ (.slice A9 (K + 1) c9)) := (HTW.out.then_ HB9.out).setCell (Nat.le_refl _) _
               have HWS := Lib.hid hws
               have hbbs : (w9.setCell ⟨w.heap.size, 65, none⟩ (.slice A9 (K + 1) c9)).heap[w.heap.size + 1]? = some (.cells Tryz.zeroCells36 36 (0, 0)) := by rw [Below.heap_setCell _ _ _ _ (by simp)]; exact HBB9.out
               have HBBS := Lib.hid hbbs
               clear hrd hws hbbs hbs)
            | (go_at_call 27; refine HSC.out.mono ?_; rintro e w10 ⟨cs', rfl, hd', hb'⟩
               have HD' := Lib.hid hd'
               have HZ' := Lib.hid (HZS.out _ _ _ hd')
               have HB' := Lib.hid (HWS.out.then_ hb')
               have HBB' := Lib.hid (hb'.deferred HBBS.out)
               clear hd' hb')
            | (refine wpList_store_row rfl 36 (.tmp 6) (.tmp 62) rfl (w.heap.size + 1) cs' rfl rfl _ _ HBB'.out HZ'.out.2.1 HZ'.out.1 HZ'.out.2.2 ?_))
          have hbe : Bel w (w10.setRow (w.heap.size + 1) cs') := below_setRow HB'.out (by omega) _
          exact bodyPost_ret (v := .tuple #[.agg cs', .int .i64 0]) (results_row2 rfl _ _ (w.heap.size + 1) cs' _ rfl rfl (setRow_heap _ _ _ _ _ _ HBB'.out) HZ'.out.2.1) rfl ⟨cs', rfl, HD'.out.nil HNS.out, hbe⟩
end Go.Proofs.YtiajggmnfaidjaaGreatDoor
set_option linter.unusedVariables false
set_option linter.unusedSimpArgs false
set_option linter.unusedVariables false
set_option linter.unusedSimpArgs false
namespace Go.Proofs.YtiajggmnfaidjaaGreatDoor
open Go.RowKit

theorem wrap_small {x : Int} (h0 : -9223372036854775808 ≤ x) (h1 : x ≤ 9223372036854775807) : IntKind.i64.wrap x = x := by
  simp [IntKind.wrap, IntKind.bits, IntKind.signed]
  omega
def GivesRRead (r : Option (Nat × List UInt8)) (w : World) (e : Ending) (w' : World) : Prop :=
  Bel w w' ∧ match r with
  | some p => e = .returned (.tuple #[.string ⟨p.2.toArray⟩, .int .i64 ((p.1 : Int) + 8 + p.2.length), .int .i64 0])
  | none => e = .returned (.tuple #[.string ⟨#[]⟩, .int .i64 0, .int .i64 4])
set_option maxRecDepth 100000 in
theorem r10Read_any {w : World} {cs : Array Value} {m : DM} {file tn : Int} (h : RLog w cs m file tn) (hfit : RFit m) (h0 : 0 ≤ file) (h64 : file < 64)
    (xs : List (List UInt8)) (t : List UInt8) (hx : ∀ x ∈ xs, x.length ≤ 60000) (ht : firstL t = none) (hs : m.files file = recsN xs ++ t) (a : Int) (r : Option (Nat × List UInt8))
    (hr : match r with | some p => p ∈ rowsFrom 0 xs ∧ (p.1 : Int) = a | none => ∀ q ∈ rowsFrom 0 xs, (q.1 : Int) ≠ a) :
    Calls Tryz.prog 29 #[.agg cs, .int .i64 a] w (GivesRRead r w) := by
  have hsz68 : (Tryz.prog.info? 38).map (·.size) = some cs.size := by obtain ⟨ds, hd, rfl⟩ := id h; rw [Array.size_append, hd.size]; kernel_rfl
  have HSZ := Lib.hid hsz68
  have HBL : Hid ((w.alloc (.cells cs 38)).heap[w.heap.size]? = some (.cells cs 38 (0, 0))) := World.alloc_heap_new _ _
  have hal : Bel w (w.alloc (.cells cs 38)) := (Bel.refl w).alloc _
  have HAL := Lib.hid hal
  have HA := Lib.hid (r10All_any (h.bel hal) hfit h0 h64 xs t hx ht hs)
  clear hsz68 hal
  have hlen : (recsN xs).length ≤ 16777216 := by
    have h1 : (m.files file).length ≤ 16777216 := by rw [hfit.files]; exact hfit.len _ _ h0 h64
    rw [hs, List.length_append] at h1
    omega
  have hrl : (rowsFrom 0 xs).length = xs.length := by have := congrArg List.length (rowsFrom_snd' xs 0); simpa using this
  have hxl : xs.length ≤ 16777216 := by
    have : ∀ l : List (List UInt8), l.length ≤ (recsN l).length := fun l => by
      induction l with
      | nil => simp [recsN]
      | cons y l ih => show _ ≤ (recN y ++ recsN l).length; rw [List.length_append, recN_length, List.length_cons]; omega
    have := this xs
    omega
  have hle := fun q hq => rows_le xs 0 q hq
  have hun := fun p q hp hq e => rows_unique xs 0 p q hp hq e
  clear h hfit hx ht hs
  generalize rowsFrom 0 xs = R at *
  have HLE : Hid (∀ q ∈ R, q.1 + q.2.length + 8 ≤ 16777216) := fun q hq => by have := hle q hq; omega
  have HUN := Lib.hid hun
  have HR := Lib.hid hr
  have hRI : (R.length : Int) ≤ 16777216 := by omega
  clear hle hlen hrl hxl hun hr
  go_enter Tryz.func29, Tryz.ntmps29
  go_wp2_with (refine wpList_load_row rfl 38 _ rfl w.heap.size rfl _ cs (0, 0) _ HBL.out Tryz.underlying38 rfl HSZ.out ?_)
  refine HA.out.mono ?_
  rintro e w1 ⟨v, rfl, hv, hb⟩
  obtain ⟨A, c, rfl, hcl, hv'⟩ := id hv
  have HV := Lib.hid hv
  have HB := Lib.hid (HAL.out.then_ hb)
  clear hv hv' hb HA
  go_wp2
  go_loopw [8] (fun i wr => ∃ k : Nat, k ≤ R.length ∧ i = .int .i64 k ∧ Hid (NoneAt a (R.take k) ∧ Bel w1 wr)) (fun i _ => R.length - (intOf i).toNat)
  case atStart => exact ⟨0, Nat.zero_le _, rfl, fun q hq => by simp at hq, Bel.refl _⟩
  case round =>
    obtain ⟨k, hk, rfl, HN⟩ := hrel
    by_cases hlt : k < R.length
    · obtain ⟨x, hxk⟩ : ∃ x, R[k]? = some x := ⟨_, List.getElem?_eq_getElem hlt⟩
      obtain ⟨g, off, rfl, c0, c1⟩ := (HV.out.bel HN.out.2).at_ hxk
      have hkI : (k : Int) < R.length := by omega
      have hmem := List.mem_of_getElem? hxk
      have hx1 : (x.1 : Int) + x.2.length + 8 ≤ 16777216 := by have := HLE.out x hmem; omega
      have hsx : (⟨x.2.toArray⟩ : ByteArray).size = x.2.length := rfl
      by_cases he : (x.1 : Int) = a
      · have hbq : ((x.1 : Int) == a) = true := by simp [he]
        have hrr : r = some x := by
          cases r with
          | none => exact absurd he (HR.out x hmem)
          | some p =>
            obtain ⟨h1, h2⟩ := HR.out
            rw [HUN.out p x h1 hmem (by omega)]
        subst hrr
        have HE := Lib.hid he
        clear hxk hmem HR HUN
        subst he
        go_wp2
        refine wp_region_noPanic ?_
        refine wp_region_held_drew (S := (fun V : World => V.cell? ⟨g, off + k * 2 + 1, none⟩ = some (.string ⟨x.2.toArray⟩))) (by kernel_rfl) ?_ (fun hHr1_0 => ?_)
        · (try dsimp only); (first | exact c1 | assumption)
        refine tk 0 ?_
        refine tk 1 ?_
        refine tk 2 ?_
        refine tk 3 ?_
        refine tk 4 ?_
        refine tk 5 ?_
        refine tk 6 ?_
        refine tk 7 ?_
        refine tk 8 ?_
        refine tk 9 ?_
        refine tk 10 ?_
        refine tk 11 ?_
        refine tk 12 ?_
        refine tk 13 ?_
        refine rd1 14 (fun K hK => ?_)
        go_simp
        refine hK.out _ _ ?_ (fun hHr1_1 => ?_)
        · (try dsimp only); (first | exact c1 | assumption)
        clear hK K hHr1_0
        try simp only [tkp0, tkp1, tkp2, tkp3, tkp4, tkp5, tkp6, tkp7]
        refine rd1 15 (fun K hK => ?_)
        go_simp
        refine hK.out _ _ ?_ (fun hHr1_2 => ?_)
        · (try dsimp only); (first | exact c1 | assumption)
        clear hK K hHr1_1
        try simp only [tkp0, tkp1, tkp2, tkp3, tkp4, tkp5, tkp6, tkp7]
        refine rd1 16 (fun K hK => ?_)
        go_simp
        refine hK.out _ _ ?_ (fun hHr1_3 => ?_)
        · (try dsimp only); (first | exact c1 | assumption)
        clear hK K hHr1_2
        try simp only [tkp0, tkp1, tkp2, tkp3, tkp4, tkp5, tkp6, tkp7]
        refine wpAnyH_done (by kernel_rfl) ?_ _
        refine NoPanic.normal ?_
        go_wp2
        go_ret3
        have hw1 : IntKind.i64.wrap ((x.1 : Int) + 8) = x.1 + 8 := wrap_small (by omega) (by omega)
        have hw2 : IntKind.i64.wrap ((x.1 : Int) + 8 + x.2.length) = x.1 + 8 + x.2.length := wrap_small (by omega) (by omega)
        refine ⟨HB.out.then_ (Bel.drew HN.out.2), ?_⟩
        show Ending.returned (.tuple #[.string ⟨x.2.toArray⟩, .int .i64 (IntKind.i64.wrap (IntKind.i64.wrap ((x.1 : Int) + 8) + x.2.length)), .int .i64 0]) = _
        rw [hw1, hw2]
      · have hbq : ((x.1 : Int) == a) = false := beq_eq_false_iff_ne.2 he
        have HN2 : Hid (NoneAt a (R.take (k + 1)) ∧ Bel w1 wr) := ⟨by rw [List.take_add_one, hxk]; exact HN.out.1.snoc he, HN.out.2⟩
        clear he hxk hmem
        go_wp2
        go_roundw
        case rel => exact ⟨k + 1, by omega, by go_num, HN2.out⟩
        case measure => simp [intOf]; omega
    · obtain rfl : k = R.length := by omega
      have hrr : r = none := by
        cases r with
        | none => rfl
        | some p =>
          obtain ⟨h1, h2⟩ := HR.out
          have := HN.out.1
          rw [List.take_length] at this
          exact absurd h2 (this p h1)
      subst hrr
      go_wp2
      go_ret3
      exact ⟨HB.out.then_ HN.out.2, rfl⟩
end Go.Proofs.YtiajggmnfaidjaaGreatDoor
